/- Contracts of functions of the program: what each call answers. -/
import Derived.Test.YtglgidpbcnngdaaPartc
import Derived.Test.YtglgidpbcnngdaaProg
section
set_option linter.unusedVariables false
set_option linter.unusedSimpArgs false
open Go Go.Tm Go.Proofs
namespace Go.K
def E : Env := (.node (.node (.node (.node (.node (.node (.node .nil 2 ⟨(.int .i64), [.t (.v (.int .i64 0))], 8⟩ .nil) 3 ⟨(.int .i64), [.t (.v (.int .i64 0))], 8⟩ .nil) 4 ⟨.bool, [.b false], 1⟩ (.node (.node .nil 5 ⟨(.int .u8), [.t (.v (.int .u8 0))], 1⟩ .nil) 6 ⟨(.int .u8), [.t (.v (.int .u8 0))], 1⟩ .nil)) 7 ⟨(.struct [(0, 2), (1, 3), (2, 4), (3, 6)]), [.t (.v (.int .i64 0)), .t (.v (.int .i64 0)), .b false, .t (.v (.int .u8 0))], 24⟩ (.node (.node (.node .nil 9 ⟨.str, [.s ⟨#[]⟩], 16⟩ .nil) 12 ⟨(.int .u64), [.t (.v (.int .u64 0))], 8⟩ .nil) 13 ⟨(.struct [(0, 9), (1, 12)]), [.s ⟨#[]⟩, .t (.v (.int .u64 0))], 24⟩ (.node .nil 17 ⟨(.ptr 238), [.t (.v (.pointer none))], 8⟩ .nil))) 18 ⟨(.struct [(0, 17)]), [.t (.v (.pointer none))], 8⟩ (.node (.node (.node (.node .nil 19 ⟨(.struct [(0, 17)]), [.t (.v (.pointer none))], 8⟩ .nil) 21 ⟨(.int .i32), [.t (.v (.int .i32 0))], 4⟩ .nil) 22 ⟨(.slice 9), [.own [false] []], 24⟩ (.node .nil 23 ⟨(.struct [(0, 3), (1, 3), (2, 3), (3, 3), (4, 3), (5, 3), (6, 9), (7, 22)]), [.t (.v (.int .i64 0)), .t (.v (.int .i64 0)), .t (.v (.int .i64 0)), .t (.v (.int .i64 0)), .t (.v (.int .i64 0)), .t (.v (.int .i64 0)), .s ⟨#[]⟩, .own [false] []], 88⟩ .nil)) 24 ⟨(.struct [(0, 3), (1, 3), (2, 3), (3, 3), (4, 3), (5, 3), (6, 9), (7, 22)]), [.t (.v (.int .i64 0)), .t (.v (.int .i64 0)), .t (.v (.int .i64 0)), .t (.v (.int .i64 0)), .t (.v (.int .i64 0)), .t (.v (.int .i64 0)), .s ⟨#[]⟩, .own [false] []], 88⟩ (.node (.node (.node .nil 27 ⟨(.struct [(0, 3), (1, 3), (2, 3), (3, 3), (4, 3), (5, 3), (6, 9), (7, 22)]), [.t (.v (.int .i64 0)), .t (.v (.int .i64 0)), .t (.v (.int .i64 0)), .t (.v (.int .i64 0)), .t (.v (.int .i64 0)), .t (.v (.int .i64 0)), .s ⟨#[]⟩, .own [false] []], 88⟩ .nil) 31 ⟨(.slice 5), [.own [false] []], 24⟩ .nil) 32 ⟨(.slice 40), [.own [false, false, true] []], 24⟩ (.node .nil 33 ⟨(.struct [(0, 32)]), [.own [false, false, true] []], 24⟩ .nil)))) 34 ⟨(.struct [(0, 32)]), [.own [false, false, true] []], 24⟩ (.node (.node (.node (.node (.node .nil 38 ⟨(.slice 3), [.own [false] []], 24⟩ .nil) 39 ⟨(.struct [(0, 9), (1, 3), (2, 38)]), [.s ⟨#[]⟩, .t (.v (.int .i64 0)), .own [false] []], 48⟩ .nil) 40 ⟨(.struct [(0, 9), (1, 3), (2, 38)]), [.s ⟨#[]⟩, .t (.v (.int .i64 0)), .own [false] []], 48⟩ (.node (.node .nil 47 ⟨(.slice 204), [.own [false, false, true] []], 24⟩ .nil) 48 ⟨(.struct [(0, 47)]), [.own [false, false, true] []], 24⟩ .nil)) 49 ⟨(.struct [(0, 47)]), [.own [false, false, true] []], 24⟩ (.node (.node (.node .nil 61 ⟨(.struct [(0, 3), (1, 3), (2, 22)]), [.t (.v (.int .i64 0)), .t (.v (.int .i64 0)), .own [false] []], 40⟩ .nil) 62 ⟨(.struct [(0, 3), (1, 3), (2, 22)]), [.t (.v (.int .i64 0)), .t (.v (.int .i64 0)), .own [false] []], 40⟩ .nil) 68 ⟨(.slice 158), [.own [false, false, false] []], 24⟩ (.node .nil 69 ⟨(.slice 24), [.own [false, false, false, false, false, false, false, true] []], 24⟩ .nil))) 72 ⟨(.slice 160), [.own [false, false, false] []], 24⟩ (.node (.node (.node (.node .nil 75 ⟨(.slice 27), [.own [false, false, false, false, false, false, false, true] []], 24⟩ .nil) 82 ⟨(.struct [(0, 3), (1, 3), (2, 3), (3, 9)]), [.t (.v (.int .i64 0)), .t (.v (.int .i64 0)), .t (.v (.int .i64 0)), .s ⟨#[]⟩], 40⟩ .nil) 83 ⟨(.struct [(0, 3), (1, 3), (2, 3), (3, 9)]), [.t (.v (.int .i64 0)), .t (.v (.int .i64 0)), .t (.v (.int .i64 0)), .s ⟨#[]⟩], 40⟩ (.node .nil 91 ⟨(.struct [(0, 3), (1, 3), (2, 4), (3, 3), (4, 3), (5, 3), (6, 3), (7, 3), (8, 22), (9, 9), (10, 3)]), [.t (.v (.int .i64 0)), .t (.v (.int .i64 0)), .b false, .t (.v (.int .i64 0)), .t (.v (.int .i64 0)), .t (.v (.int .i64 0)), .t (.v (.int .i64 0)), .t (.v (.int .i64 0)), .own [false] [], .s ⟨#[]⟩, .t (.v (.int .i64 0))], 112⟩ .nil)) 92 ⟨(.struct [(0, 3), (1, 3), (2, 4), (3, 3), (4, 3), (5, 3), (6, 3), (7, 3), (8, 22), (9, 9), (10, 3)]), [.t (.v (.int .i64 0)), .t (.v (.int .i64 0)), .b false, .t (.v (.int .i64 0)), .t (.v (.int .i64 0)), .t (.v (.int .i64 0)), .t (.v (.int .i64 0)), .t (.v (.int .i64 0)), .own [false] [], .s ⟨#[]⟩, .t (.v (.int .i64 0))], 112⟩ (.node (.node (.node .nil 96 ⟨(.struct [(0, 92), (11, 75)]), [.t (.v (.int .i64 0)), .t (.v (.int .i64 0)), .b false, .t (.v (.int .i64 0)), .t (.v (.int .i64 0)), .t (.v (.int .i64 0)), .t (.v (.int .i64 0)), .t (.v (.int .i64 0)), .own [false] [], .s ⟨#[]⟩, .t (.v (.int .i64 0)), .own [false, false, false, false, false, false, false, true] []], 136⟩ .nil) 97 ⟨(.struct [(0, 92), (11, 75)]), [.t (.v (.int .i64 0)), .t (.v (.int .i64 0)), .b false, .t (.v (.int .i64 0)), .t (.v (.int .i64 0)), .t (.v (.int .i64 0)), .t (.v (.int .i64 0)), .t (.v (.int .i64 0)), .own [false] [], .s ⟨#[]⟩, .t (.v (.int .i64 0)), .own [false, false, false, false, false, false, false, true] []], 136⟩ .nil) 100 ⟨(.struct [(0, 3), (1, 3), (2, 4), (3, 3), (4, 3), (5, 3), (6, 3), (7, 3), (8, 22), (9, 9), (10, 3)]), [.t (.v (.int .i64 0)), .t (.v (.int .i64 0)), .b false, .t (.v (.int .i64 0)), .t (.v (.int .i64 0)), .t (.v (.int .i64 0)), .t (.v (.int .i64 0)), .t (.v (.int .i64 0)), .own [false] [], .s ⟨#[]⟩, .t (.v (.int .i64 0))], 112⟩ (.node .nil 109 ⟨(.struct [(0, 22), (1, 22)]), [.own [false] [], .own [false] []], 48⟩ .nil))))) 110 ⟨(.struct [(0, 22), (1, 22)]), [.own [false] [], .own [false] []], 48⟩ (.node (.node (.node (.node (.node (.node .nil 111 ⟨(.slice 214), [.own [false, false, false] []], 24⟩ .nil) 112 ⟨(.slice 216), [.own [false, false] []], 24⟩ .nil) 113 ⟨(.slice 218), [.own [false, false, false] []], 24⟩ (.node (.node .nil 114 ⟨(.struct [(0, 3), (1, 4), (2, 3), (3, 3), (4, 3), (5, 3), (6, 110), (8, 22), (9, 111), (10, 112), (11, 113)]), [.t (.v (.int .i64 0)), .b false, .t (.v (.int .i64 0)), .t (.v (.int .i64 0)), .t (.v (.int .i64 0)), .t (.v (.int .i64 0)), .own [false] [], .own [false] [], .own [false] [], .own [false, false, false] [], .own [false, false] [], .own [false, false, false] []], 192⟩ .nil) 115 ⟨(.struct [(0, 3), (1, 4), (2, 3), (3, 3), (4, 3), (5, 3), (6, 110), (8, 22), (9, 111), (10, 112), (11, 113)]), [.t (.v (.int .i64 0)), .b false, .t (.v (.int .i64 0)), .t (.v (.int .i64 0)), .t (.v (.int .i64 0)), .t (.v (.int .i64 0)), .own [false] [], .own [false] [], .own [false] [], .own [false, false, false] [], .own [false, false] [], .own [false, false, false] []], 192⟩ .nil)) 118 ⟨(.struct [(0, 22), (1, 22)]), [.own [false] [], .own [false] []], 48⟩ (.node (.node (.node .nil 119 ⟨(.slice 192), [.own [false, false, false] []], 24⟩ .nil) 120 ⟨(.slice 182), [.own [false, false] []], 24⟩ .nil) 121 ⟨(.slice 184), [.own [false, false, false] []], 24⟩ (.node .nil 122 ⟨(.struct [(0, 3), (1, 4), (2, 3), (3, 3), (4, 3), (5, 3), (6, 118), (8, 22), (9, 119), (10, 120), (11, 121)]), [.t (.v (.int .i64 0)), .b false, .t (.v (.int .i64 0)), .t (.v (.int .i64 0)), .t (.v (.int .i64 0)), .t (.v (.int .i64 0)), .own [false] [], .own [false] [], .own [false] [], .own [false, false, false] [], .own [false, false] [], .own [false, false, false] []], 192⟩ .nil))) 123 ⟨(.struct [(0, 3), (1, 4), (2, 3), (3, 3), (4, 3), (5, 3), (6, 118), (8, 22), (9, 119), (10, 120), (11, 121)]), [.t (.v (.int .i64 0)), .b false, .t (.v (.int .i64 0)), .t (.v (.int .i64 0)), .t (.v (.int .i64 0)), .t (.v (.int .i64 0)), .own [false] [], .own [false] [], .own [false] [], .own [false, false, false] [], .own [false, false] [], .own [false, false, false] []], 192⟩ (.node (.node (.node (.node .nil 131 ⟨(.int .u64), [.t (.v (.int .u64 0))], 8⟩ .nil) 133 ⟨(.ptr 200), [.t (.v (.pointer none))], 8⟩ .nil) 139 ⟨(.map 9 4), [.t (.v (.map none))], 8⟩ (.node .nil 141 ⟨(.int .u64), [.t (.v (.int .u64 0))], 8⟩ .nil)) 142 ⟨(.int .u64), [.t (.v (.int .u64 0))], 8⟩ (.node (.node (.node .nil 157 ⟨(.struct [(0, 3), (1, 9), (2, 9)]), [.t (.v (.int .i64 0)), .s ⟨#[]⟩, .s ⟨#[]⟩], 40⟩ .nil) 158 ⟨(.struct [(0, 3), (1, 9), (2, 9)]), [.t (.v (.int .i64 0)), .s ⟨#[]⟩, .s ⟨#[]⟩], 40⟩ .nil) 160 ⟨(.struct [(0, 3), (1, 9), (2, 9)]), [.t (.v (.int .i64 0)), .s ⟨#[]⟩, .s ⟨#[]⟩], 40⟩ (.node .nil 181 ⟨(.struct [(0, 4), (1, 3)]), [.b false, .t (.v (.int .i64 0))], 16⟩ .nil)))) 182 ⟨(.struct [(0, 4), (1, 3)]), [.b false, .t (.v (.int .i64 0))], 16⟩ (.node (.node (.node (.node (.node .nil 183 ⟨(.struct [(0, 3), (1, 3), (2, 3)]), [.t (.v (.int .i64 0)), .t (.v (.int .i64 0)), .t (.v (.int .i64 0))], 24⟩ .nil) 184 ⟨(.struct [(0, 3), (1, 3), (2, 3)]), [.t (.v (.int .i64 0)), .t (.v (.int .i64 0)), .t (.v (.int .i64 0))], 24⟩ .nil) 190 ⟨(.map 3 4), [.t (.v (.map none))], 8⟩ (.node .nil 191 ⟨(.struct [(0, 3), (1, 3), (2, 3)]), [.t (.v (.int .i64 0)), .t (.v (.int .i64 0)), .t (.v (.int .i64 0))], 24⟩ .nil)) 192 ⟨(.struct [(0, 3), (1, 3), (2, 3)]), [.t (.v (.int .i64 0)), .t (.v (.int .i64 0)), .t (.v (.int .i64 0))], 24⟩ (.node (.node (.node .nil 199 ⟨(.struct [(0, 31), (1, 3)]), [.own [false] [], .t (.v (.int .i64 0))], 32⟩ .nil) 200 ⟨(.struct [(0, 31), (1, 3)]), [.own [false] [], .t (.v (.int .i64 0))], 32⟩ .nil) 202 ⟨(.ptr 142), [.t (.v (.pointer none))], 8⟩ (.node .nil 204 ⟨(.struct [(0, 9), (1, 3), (2, 38)]), [.s ⟨#[]⟩, .t (.v (.int .i64 0)), .own [false] []], 48⟩ .nil))) 214 ⟨(.struct [(0, 3), (1, 3), (2, 3)]), [.t (.v (.int .i64 0)), .t (.v (.int .i64 0)), .t (.v (.int .i64 0))], 24⟩ (.node (.node (.node (.node .nil 216 ⟨(.struct [(0, 4), (1, 3)]), [.b false, .t (.v (.int .i64 0))], 16⟩ .nil) 218 ⟨(.struct [(0, 3), (1, 3), (2, 3)]), [.t (.v (.int .i64 0)), .t (.v (.int .i64 0)), .t (.v (.int .i64 0))], 24⟩ .nil) 224 ⟨(.struct [(0, 17), (1, 17), (2, 17), (3, 9)]), [.t (.v (.pointer none)), .t (.v (.pointer none)), .t (.v (.pointer none)), .s ⟨#[]⟩], 40⟩ (.node .nil 230 ⟨(.int .u32), [.t (.v (.int .u32 0))], 4⟩ .nil)) 231 ⟨(.int .u8), [.t (.v (.int .u8 0))], 1⟩ (.node (.node (.node .nil 232 ⟨(.int .u8), [.t (.v (.int .u8 0))], 1⟩ .nil) 234 ⟨(.ptr 5), [.t (.v (.pointer none))], 8⟩ .nil) 235 ⟨(.int .i32), [.t (.v (.int .i32 0))], 4⟩ (.node .nil 236 ⟨(.int .i32), [.t (.v (.int .i32 0))], 4⟩ .nil))))))
set_option maxRecDepth 10000 in
theorem E_ok : EnvOk Try.prog E := by
  unfold E
  repeat (first | exact EnvOk.nil | refine EnvOk.node ?_ ⟨by kernel_rfl, by kernel_rfl, by simp, by simp [zcOk, sc], by simp [Ty.agg], by simp, by simp, by simp⟩ ?_)
def md (f : FuncId) : List Md := (bif Nat.blt f 87 then (bif Nat.blt f 45 then (bif Nat.blt f 24 then (bif Nat.blt f 13 then (bif Nat.blt f 8 then (bif Nat.blt f 5 then (bif Nat.blt f 4 then [.v, .v] else [.v]) else (bif Nat.blt f 6 then [.v, .v] else (bif Nat.blt f 7 then [.v] else [.v]))) else (bif Nat.blt f 10 then (bif Nat.blt f 9 then [.v, .v] else [.v, .v, .v]) else (bif Nat.blt f 11 then [.v] else (bif Nat.blt f 12 then [.v] else [.v, .v])))) else (bif Nat.blt f 18 then (bif Nat.blt f 15 then (bif Nat.blt f 14 then [.v, .v, .v] else [.v, .v]) else (bif Nat.blt f 16 then [.v, .v] else (bif Nat.blt f 17 then [.v, .v] else [.v]))) else (bif Nat.blt f 21 then (bif Nat.blt f 19 then [.v, .v] else (bif Nat.blt f 20 then [.v, .v] else [.v])) else (bif Nat.blt f 22 then [.v] else (bif Nat.blt f 23 then [.v] else [.v]))))) else (bif Nat.blt f 34 then (bif Nat.blt f 29 then (bif Nat.blt f 26 then (bif Nat.blt f 25 then [.v, .v] else [.v, .v]) else (bif Nat.blt f 27 then [.v, .v] else (bif Nat.blt f 28 then [.v, .v] else [.b, .v]))) else (bif Nat.blt f 31 then (bif Nat.blt f 30 then [.v, .v] else [.v, .v]) else (bif Nat.blt f 32 then [.v] else (bif Nat.blt f 33 then [.v] else [.v, .v])))) else (bif Nat.blt f 39 then (bif Nat.blt f 36 then (bif Nat.blt f 35 then [.v, .v] else [.b, .v]) else (bif Nat.blt f 37 then [.b, .v] else (bif Nat.blt f 38 then [.v, .v] else [.v]))) else (bif Nat.blt f 42 then (bif Nat.blt f 40 then [.v, .v] else (bif Nat.blt f 41 then [.v] else [.v, .v])) else (bif Nat.blt f 43 then [.v, .v] else (bif Nat.blt f 44 then [.v] else [.v, .v])))))) else (bif Nat.blt f 66 then (bif Nat.blt f 55 then (bif Nat.blt f 50 then (bif Nat.blt f 47 then (bif Nat.blt f 46 then [.v, .v] else [.b, .v]) else (bif Nat.blt f 48 then [.v, .v] else (bif Nat.blt f 49 then [.v, .v] else [.v, .v]))) else (bif Nat.blt f 52 then (bif Nat.blt f 51 then [.v, .v, .v] else [.v]) else (bif Nat.blt f 53 then [.v] else (bif Nat.blt f 54 then [.v, .v, .v] else [.v, .v])))) else (bif Nat.blt f 60 then (bif Nat.blt f 57 then (bif Nat.blt f 56 then [.v, .v] else [.b, .v]) else (bif Nat.blt f 58 then [.b, .v] else (bif Nat.blt f 59 then [.v, .v] else [.v]))) else (bif Nat.blt f 63 then (bif Nat.blt f 61 then [.v] else (bif Nat.blt f 62 then [.v] else [.v])) else (bif Nat.blt f 64 then [.v] else (bif Nat.blt f 65 then [.v] else [.v]))))) else (bif Nat.blt f 76 then (bif Nat.blt f 71 then (bif Nat.blt f 68 then (bif Nat.blt f 67 then [.v, .v] else [.v]) else (bif Nat.blt f 69 then [.v] else (bif Nat.blt f 70 then [.v] else [.v, .v, .v]))) else (bif Nat.blt f 73 then (bif Nat.blt f 72 then [.v, .v] else [.v, .v]) else (bif Nat.blt f 74 then [.v, .v] else (bif Nat.blt f 75 then [.v] else [.v, .v])))) else (bif Nat.blt f 81 then (bif Nat.blt f 78 then (bif Nat.blt f 77 then [.v, .v] else [.b, .v]) else (bif Nat.blt f 79 then [.b, .v] else (bif Nat.blt f 80 then [.v, .v] else [.v, .v, .v]))) else (bif Nat.blt f 84 then (bif Nat.blt f 82 then [.v, .v] else (bif Nat.blt f 83 then [.v, .v] else [.v])) else (bif Nat.blt f 85 then [.v, .v] else (bif Nat.blt f 86 then [.v, .v] else [.v]))))))) else (bif Nat.blt f 129 then (bif Nat.blt f 108 then (bif Nat.blt f 97 then (bif Nat.blt f 92 then (bif Nat.blt f 89 then (bif Nat.blt f 88 then [.v] else [.v]) else (bif Nat.blt f 90 then [.v] else (bif Nat.blt f 91 then [.v, .v] else [.v]))) else (bif Nat.blt f 94 then (bif Nat.blt f 93 then [.p] else [.p, .v]) else (bif Nat.blt f 95 then [.p, .v] else (bif Nat.blt f 96 then [.v, .v] else [.v])))) else (bif Nat.blt f 102 then (bif Nat.blt f 99 then (bif Nat.blt f 98 then [.v] else [.p, .v]) else (bif Nat.blt f 100 then [.v] else (bif Nat.blt f 101 then [.v, .v] else [.v]))) else (bif Nat.blt f 105 then (bif Nat.blt f 103 then [.v, .v] else (bif Nat.blt f 104 then [.b, .v] else [.v])) else (bif Nat.blt f 106 then [.p] else (bif Nat.blt f 107 then [.p, .v] else [.v, .v]))))) else (bif Nat.blt f 118 then (bif Nat.blt f 113 then (bif Nat.blt f 110 then (bif Nat.blt f 109 then [.p, .v] else [.v, .v, .v]) else (bif Nat.blt f 111 then [.v, .v] else (bif Nat.blt f 112 then [.v, .v] else [.v]))) else (bif Nat.blt f 115 then (bif Nat.blt f 114 then [.v] else [.v]) else (bif Nat.blt f 116 then [.v, .v] else (bif Nat.blt f 117 then [.p] else [.v])))) else (bif Nat.blt f 123 then (bif Nat.blt f 120 then (bif Nat.blt f 119 then [.v] else [.p, .v]) else (bif Nat.blt f 121 then [.p] else (bif Nat.blt f 122 then [.v, .v, .v] else [.v]))) else (bif Nat.blt f 126 then (bif Nat.blt f 124 then [.v] else (bif Nat.blt f 125 then [.v, .v, .v] else [.v])) else (bif Nat.blt f 127 then [.v] else (bif Nat.blt f 128 then [.mv, .v, .v] else [.mv, .v])))))) else (bif Nat.blt f 150 then (bif Nat.blt f 139 then (bif Nat.blt f 134 then (bif Nat.blt f 131 then (bif Nat.blt f 130 then [.v] else [.v, .v]) else (bif Nat.blt f 132 then [.v, .v] else (bif Nat.blt f 133 then [.v, .v] else [.v, .v]))) else (bif Nat.blt f 136 then (bif Nat.blt f 135 then [.v, .v] else [.v, .v]) else (bif Nat.blt f 137 then [.v, .v] else (bif Nat.blt f 138 then [.v, .v] else [.v])))) else (bif Nat.blt f 144 then (bif Nat.blt f 141 then (bif Nat.blt f 140 then [.v, .v] else [.v]) else (bif Nat.blt f 142 then [.v] else (bif Nat.blt f 143 then [.v] else [.v]))) else (bif Nat.blt f 147 then (bif Nat.blt f 145 then [.v] else (bif Nat.blt f 146 then [.v, .v] else [.v, .v])) else (bif Nat.blt f 148 then [.v, .v] else (bif Nat.blt f 149 then [.v, .v] else [.v]))))) else (bif Nat.blt f 160 then (bif Nat.blt f 155 then (bif Nat.blt f 152 then (bif Nat.blt f 151 then [.v] else [.v]) else (bif Nat.blt f 153 then [.v, .v] else (bif Nat.blt f 154 then [.v] else [.v, .v]))) else (bif Nat.blt f 157 then (bif Nat.blt f 156 then [.b, .v] else [.p]) else (bif Nat.blt f 158 then [.p, .v] else (bif Nat.blt f 159 then [.p, .mv] else [.v])))) else (bif Nat.blt f 165 then (bif Nat.blt f 162 then (bif Nat.blt f 161 then [.v, .v] else [.v, .v]) else (bif Nat.blt f 163 then [.v] else (bif Nat.blt f 164 then [.v] else [.v]))) else (bif Nat.blt f 168 then (bif Nat.blt f 166 then [.v, .v] else (bif Nat.blt f 167 then [.v, .v] else [.v, .v])) else (bif Nat.blt f 169 then [.v, .v] else (bif Nat.blt f 170 then [.v] else [.v, .v]))))))))
def sq (t : TypeId) : Bool := Nat.beq t 83 || Nat.beq t 192
theorem sq_ok : ∀ t, sq t = true → SqOk Try.prog t := by
  intro t h
  simp only [sq, Bool.or_eq_true, Nat.beq_eq] at h
  rcases h with rfl | rfl
  all_goals exact ⟨by kernel_rfl, by kernel_rfl, by kernel_rfl, by kernel_rfl⟩
def F (f : FuncId) (xs : List A) (res : V) (outs : List (List V)) : Prop := Enters Try.prog f ∧ Tm.Fn Try.prog f xs res outs
def C : Cx := ⟨E, F, md, sq⟩
theorem C_ok : CxOk Try.prog C := ⟨E_ok, sq_ok, fun _ _ _ _ h => h⟩
variable {nt id : Nat} {ops : Array Oper} {y : Code} {H : HD} {Q : Exit → HD → Prop}
theorem g (lo hi : Nat) (ans : List Ans) (h : evSH C nt ops ops.toList ans H fun p H => dropH lo hi H fun H => p ∧ W Try.prog nt y H Q) : W Try.prog nt (.seq (.region id ops false) y) H Q := W.sg C_ok lo hi ans h
theorem rg (ans : List Ans) (h : evSH C nt ops ops.toList ans H fun p H => p ∧ Q .normal H) : W Try.prog nt (.region id ops false) H Q := W.rg C_ok ans h
theorem mixed : Try.prog.follows .mixedOrders = true := by kernel_rfl
theorem gd (lo hi : Nat) (ans : List (List Ans)) (h : evEH C nt ops ops.toList ans H fun p r H => dropH lo hi H fun H => p ∧ chkE ops.toList r = true ∧ W Try.prog nt y H Q) : W Try.prog nt (.seq (.region id ops true) y) H Q := W.sgD C_ok mixed lo hi ans h
theorem rgd (ans : List (List Ans)) (h : evEH C nt ops ops.toList ans H fun p r H => p ∧ chkE ops.toList r = true ∧ Q .normal H) : W Try.prog nt (.region id ops true) H Q := W.rgD C_ok mixed ans h
abbrev Q1 (res : V) (outs : List (List V)) : V → List (List V) → Prop := fun r o => r = res ∧ o = outs
abbrev ty_laws_Message : TypeId := 24
abbrev ty_laws_Plan : TypeId := 49
abbrev ty_laws_Worker : TypeId := 100
abbrev ty_laws_Task : TypeId := 204
abbrev n_laws_FnExactWorkerTake : FuncId := 13
theorem e_laws_FnExactWorkerTake : Enters Try.prog 13 := ⟨Try.f13, Try.func13, by kernel_rfl, by kernel_rfl⟩
theorem i_laws_FnExactWorkerTake {xs : List A} {res : V} {outs : List (List V)} (hrun : forceH (iniH 115 xs) fun H => W Try.prog 115 (bodyOf Try.f13) H (EndsW 115 E [(6, 4, false)] xs (Q1 res outs))) (h : (okAs xs && Nat.ble xs.length 115) = true := by rfl) : F 13 xs res outs := ⟨e_laws_FnExactWorkerTake, Fn.one Try.func13 rfl rfl E_ok rfl h hrun⟩
abbrev n_laws_szMessage : FuncId := 15
theorem e_laws_szMessage : Enters Try.prog 15 := ⟨Try.f15, Try.func15, by kernel_rfl, by kernel_rfl⟩
theorem i_laws_szMessage {xs : List A} {res : V} {outs : List (List V)} (hrun : forceH (iniH 19 xs) fun H => W Try.prog 19 (bodyOf Try.f15) H (EndsW 19 E [(4, 3, false)] xs (Q1 res outs))) (h : (okAs xs && Nat.ble xs.length 19) = true := by rfl) : F 15 xs res outs := ⟨e_laws_szMessage, Fn.one Try.func15 rfl rfl E_ok rfl h hrun⟩
abbrev n_laws_toMessage : FuncId := 17
theorem e_laws_toMessage : Enters Try.prog 17 := ⟨Try.f17, Try.func17, by kernel_rfl, by kernel_rfl⟩
theorem i_laws_toMessage {xs : List A} {res : V} {outs : List (List V)} (hrun : forceH (iniH 30 xs) fun H => W Try.prog 30 (bodyOf Try.f17) H (EndsW 30 E [(2, 27, true)] xs (Q1 res outs))) (h : (okAs xs && Nat.ble xs.length 30) = true := by rfl) : F 17 xs res outs := ⟨e_laws_toMessage, Fn.one Try.func17 rfl rfl E_ok rfl h hrun⟩
abbrev n_laws_eqMessage : FuncId := 19
theorem e_laws_eqMessage : Enters Try.prog 19 := ⟨Try.f19, Try.func19, by kernel_rfl, by kernel_rfl⟩
theorem i_laws_eqMessage {xs : List A} {res : V} {outs : List (List V)} (hrun : forceH (iniH 46 xs) fun H => W Try.prog 46 (bodyOf Try.f19) H (EndsW 46 E [(4, 4, false)] xs (Q1 res outs))) (h : (okAs xs && Nat.ble xs.length 46) = true := by rfl) : F 19 xs res outs := ⟨e_laws_eqMessage, Fn.one Try.func19 rfl rfl E_ok rfl h hrun⟩
abbrev n_impl_CheckPlan : FuncId := 22
theorem e_impl_CheckPlan : Enters Try.prog 22 := ⟨Try.f22, Try.func22, by kernel_rfl, by kernel_rfl⟩
theorem i_impl_CheckPlan {xs : List A} {res : V} {outs : List (List V)} (hrun : forceH (iniH 91 xs) fun H => W Try.prog 91 (bodyOf Try.f22) H (EndsW 91 E [(2, 3, false)] xs (Q1 res outs))) (h : (okAs xs && Nat.ble xs.length 91) = true := by rfl) : F 22 xs res outs := ⟨e_impl_CheckPlan, Fn.one Try.func22 rfl rfl E_ok rfl h hrun⟩
abbrev n_spec_CheckPlan : FuncId := 23
theorem e_spec_CheckPlan : Enters Try.prog 23 := ⟨Try.f23, Try.func23, by kernel_rfl, by kernel_rfl⟩
theorem i_spec_CheckPlan {xs : List A} {res : V} {outs : List (List V)} (hrun : forceH (iniH 120 xs) fun H => W Try.prog 120 (bodyOf Try.f23) H (EndsW 120 E [(2, 3, false)] xs (Q1 res outs))) (h : (okAs xs && Nat.ble xs.length 120) = true := by rfl) : F 23 xs res outs := ⟨e_spec_CheckPlan, Fn.one Try.func23 rfl rfl E_ok rfl h hrun⟩
abbrev n_laws_markMessage : FuncId := 28
theorem e_laws_markMessage : Enters Try.prog 28 := ⟨Try.f28, Try.func28, by kernel_rfl, by kernel_rfl⟩
theorem i_laws_markMessage {xs : List A} {res : V} {outs : List (List V)} (hrun : forceH (iniH 10 xs) fun H => W Try.prog 10 (bodyOf Try.f28) H (EndsW 10 E [(4, 3, false)] xs (Q1 res outs))) (h : (okAs xs && Nat.ble xs.length 10) = true := by rfl) : F 28 xs res outs := ⟨e_laws_markMessage, Fn.one Try.func28 rfl rfl E_ok rfl h hrun⟩
abbrev n_laws_szPlan : FuncId := 30
theorem e_laws_szPlan : Enters Try.prog 30 := ⟨Try.f30, Try.func30, by kernel_rfl, by kernel_rfl⟩
theorem i_laws_szPlan {xs : List A} {res : V} {outs : List (List V)} (hrun : forceH (iniH 12 xs) fun H => W Try.prog 12 (bodyOf Try.f30) H (EndsW 12 E [(4, 3, false)] xs (Q1 res outs))) (h : (okAs xs && Nat.ble xs.length 12) = true := by rfl) : F 30 xs res outs := ⟨e_laws_szPlan, Fn.one Try.func30 rfl rfl E_ok rfl h hrun⟩
abbrev n_laws_toPlan : FuncId := 32
theorem e_laws_toPlan : Enters Try.prog 32 := ⟨Try.f32, Try.func32, by kernel_rfl, by kernel_rfl⟩
theorem i_laws_toPlan {xs : List A} {res : V} {outs : List (List V)} (hrun : forceH (iniH 9 xs) fun H => W Try.prog 9 (bodyOf Try.f32) H (EndsW 9 E [(2, 34, true)] xs (Q1 res outs))) (h : (okAs xs && Nat.ble xs.length 9) = true := by rfl) : F 32 xs res outs := ⟨e_laws_toPlan, Fn.one Try.func32 rfl rfl E_ok rfl h hrun⟩
abbrev n_laws_eqStringS : FuncId := 33
theorem e_laws_eqStringS : Enters Try.prog 33 := ⟨Try.f33, Try.func33, by kernel_rfl, by kernel_rfl⟩
theorem i_laws_eqStringS {xs : List A} {res : V} {outs : List (List V)} (hrun : forceH (iniH 26 xs) fun H => W Try.prog 26 (bodyOf Try.f33) H (EndsW 26 E [(4, 4, false)] xs (Q1 res outs))) (h : (okAs xs && Nat.ble xs.length 26) = true := by rfl) : F 33 xs res outs := ⟨e_laws_eqStringS, Fn.one Try.func33 rfl rfl E_ok rfl h hrun⟩
abbrev n_laws_eqPlan : FuncId := 34
theorem e_laws_eqPlan : Enters Try.prog 34 := ⟨Try.f34, Try.func34, by kernel_rfl, by kernel_rfl⟩
theorem i_laws_eqPlan {xs : List A} {res : V} {outs : List (List V)} (hrun : forceH (iniH 11 xs) fun H => W Try.prog 11 (bodyOf Try.f34) H (EndsW 11 E [(4, 4, false)] xs (Q1 res outs))) (h : (okAs xs && Nat.ble xs.length 11) = true := by rfl) : F 34 xs res outs := ⟨e_laws_eqPlan, Fn.one Try.func34 rfl rfl E_ok rfl h hrun⟩
abbrev n_laws_markPlan : FuncId := 35
theorem e_laws_markPlan : Enters Try.prog 35 := ⟨Try.f35, Try.func35, by kernel_rfl, by kernel_rfl⟩
theorem i_laws_markPlan {xs : List A} {res : V} {outs : List (List V)} (hrun : forceH (iniH 10 xs) fun H => W Try.prog 10 (bodyOf Try.f35) H (EndsW 10 E [(4, 3, false)] xs (Q1 res outs))) (h : (okAs xs && Nat.ble xs.length 10) = true := by rfl) : F 35 xs res outs := ⟨e_laws_markPlan, Fn.one Try.func35 rfl rfl E_ok rfl h hrun⟩
abbrev n_laws_markStringS : FuncId := 36
theorem e_laws_markStringS : Enters Try.prog 36 := ⟨Try.f36, Try.func36, by kernel_rfl, by kernel_rfl⟩
theorem i_laws_markStringS {xs : List A} {res : V} {outs : List (List V)} (hrun : forceH (iniH 20 xs) fun H => W Try.prog 20 (bodyOf Try.f36) H (EndsW 20 E [(4, 3, false)] xs (Q1 res outs))) (h : (okAs xs && Nat.ble xs.length 20) = true := by rfl) : F 36 xs res outs := ⟨e_laws_markStringS, Fn.one Try.func36 rfl rfl E_ok rfl h hrun⟩
abbrev n_laws_heldStringS : FuncId := 37
theorem e_laws_heldStringS : Enters Try.prog 37 := ⟨Try.f37, Try.func37, by kernel_rfl, by kernel_rfl⟩
theorem i_laws_heldStringS {xs : List A} {res : V} {outs : List (List V)} (hrun : forceH (iniH 22 xs) fun H => W Try.prog 22 (bodyOf Try.f37) H (EndsW 22 E [(4, 3, false)] xs (Q1 res outs))) (h : (okAs xs && Nat.ble xs.length 22) = true := by rfl) : F 37 xs res outs := ⟨e_laws_heldStringS, Fn.one Try.func37 rfl rfl E_ok rfl h hrun⟩
abbrev n_laws_szStringS : FuncId := 41
theorem e_laws_szStringS : Enters Try.prog 41 := ⟨Try.f41, Try.func41, by kernel_rfl, by kernel_rfl⟩
theorem i_laws_szStringS {xs : List A} {res : V} {outs : List (List V)} (hrun : forceH (iniH 28 xs) fun H => W Try.prog 28 (bodyOf Try.f41) H (EndsW 28 E [(4, 3, false)] xs (Q1 res outs))) (h : (okAs xs && Nat.ble xs.length 28) = true := by rfl) : F 41 xs res outs := ⟨e_laws_szStringS, Fn.one Try.func41 rfl rfl E_ok rfl h hrun⟩
abbrev n_laws_toStringS : FuncId := 43
theorem e_laws_toStringS : Enters Try.prog 43 := ⟨Try.f43, Try.func43, by kernel_rfl, by kernel_rfl⟩
theorem i_laws_toStringS {xs : List A} {res : V} {outs : List (List V)} (hrun : forceH (iniH 22 xs) fun H => W Try.prog 22 (bodyOf Try.f43) H (EndsW 22 E [(2, 22, false)] xs (Q1 res outs))) (h : (okAs xs && Nat.ble xs.length 22) = true := by rfl) : F 43 xs res outs := ⟨e_laws_toStringS, Fn.one Try.func43 rfl rfl E_ok rfl h hrun⟩
abbrev n_laws_eqMessageS : FuncId := 55
theorem e_laws_eqMessageS : Enters Try.prog 55 := ⟨Try.f55, Try.func55, by kernel_rfl, by kernel_rfl⟩
theorem i_laws_eqMessageS {xs : List A} {res : V} {outs : List (List V)} (hrun : forceH (iniH 27 xs) fun H => W Try.prog 27 (bodyOf Try.f55) H (EndsW 27 E [(4, 4, false)] xs (Q1 res outs))) (h : (okAs xs && Nat.ble xs.length 27) = true := by rfl) : F 55 xs res outs := ⟨e_laws_eqMessageS, Fn.one Try.func55 rfl rfl E_ok rfl h hrun⟩
abbrev n_laws_markMessageS : FuncId := 57
theorem e_laws_markMessageS : Enters Try.prog 57 := ⟨Try.f57, Try.func57, by kernel_rfl, by kernel_rfl⟩
theorem i_laws_markMessageS {xs : List A} {res : V} {outs : List (List V)} (hrun : forceH (iniH 70 xs) fun H => W Try.prog 70 (bodyOf Try.f57) H (EndsW 70 E [(4, 3, false)] xs (Q1 res outs))) (h : (okAs xs && Nat.ble xs.length 70) = true := by rfl) : F 57 xs res outs := ⟨e_laws_markMessageS, Fn.one Try.func57 rfl rfl E_ok rfl h hrun⟩
abbrev n_spec_ValidWorker : FuncId := 68
theorem e_spec_ValidWorker : Enters Try.prog 68 := ⟨Try.f68, Try.func68, by kernel_rfl, by kernel_rfl⟩
theorem i_spec_ValidWorker {xs : List A} {res : V} {outs : List (List V)} (hrun : forceH (iniH 129 xs) fun H => W Try.prog 129 (bodyOf Try.f68) H (EndsW 129 E [(2, 4, false)] xs (Q1 res outs))) (h : (okAs xs && Nat.ble xs.length 129) = true := by rfl) : F 68 xs res outs := ⟨e_spec_ValidWorker, Fn.one Try.func68 rfl rfl E_ok rfl h hrun⟩
abbrev n_impl_ValidWorker : FuncId := 69
theorem e_impl_ValidWorker : Enters Try.prog 69 := ⟨Try.f69, Try.func69, by kernel_rfl, by kernel_rfl⟩
theorem i_impl_ValidWorker {xs : List A} {res : V} {outs : List (List V)} (hrun : forceH (iniH 124 xs) fun H => W Try.prog 124 (bodyOf Try.f69) H (EndsW 124 E [(2, 4, false)] xs (Q1 res outs))) (h : (okAs xs && Nat.ble xs.length 124) = true := by rfl) : F 69 xs res outs := ⟨e_impl_ValidWorker, Fn.one Try.func69 rfl rfl E_ok rfl h hrun⟩
abbrev n_impl_WorkerTake : FuncId := 70
theorem e_impl_WorkerTake : Enters Try.prog 70 := ⟨Try.f70, Try.func70, by kernel_rfl, by kernel_rfl⟩
theorem i_impl_WorkerTake {xs : List A} {res : V} {outs : List (List V)} (hrun : forceH (iniH 22 xs) fun H => W Try.prog 22 (bodyOf Try.f70) H (EndsW 22 E [(6, 97, true)] xs (Q1 res outs))) (h : (okAs xs && Nat.ble xs.length 22) = true := by rfl) : F 70 xs res outs := ⟨e_impl_WorkerTake, Fn.one Try.func70 rfl rfl E_ok rfl h hrun⟩
abbrev n_laws_szWorker : FuncId := 72
theorem e_laws_szWorker : Enters Try.prog 72 := ⟨Try.f72, Try.func72, by kernel_rfl, by kernel_rfl⟩
theorem i_laws_szWorker {xs : List A} {res : V} {outs : List (List V)} (hrun : forceH (iniH 19 xs) fun H => W Try.prog 19 (bodyOf Try.f72) H (EndsW 19 E [(4, 3, false)] xs (Q1 res outs))) (h : (okAs xs && Nat.ble xs.length 19) = true := by rfl) : F 72 xs res outs := ⟨e_laws_szWorker, Fn.one Try.func72 rfl rfl E_ok rfl h hrun⟩
abbrev n_laws_toWorker : FuncId := 74
theorem e_laws_toWorker : Enters Try.prog 74 := ⟨Try.f74, Try.func74, by kernel_rfl, by kernel_rfl⟩
theorem i_laws_toWorker {xs : List A} {res : V} {outs : List (List V)} (hrun : forceH (iniH 39 xs) fun H => W Try.prog 39 (bodyOf Try.f74) H (EndsW 39 E [(2, 92, true)] xs (Q1 res outs))) (h : (okAs xs && Nat.ble xs.length 39) = true := by rfl) : F 74 xs res outs := ⟨e_laws_toWorker, Fn.one Try.func74 rfl rfl E_ok rfl h hrun⟩
abbrev n_laws_eqActed : FuncId := 75
theorem e_laws_eqActed : Enters Try.prog 75 := ⟨Try.f75, Try.func75, by kernel_rfl, by kernel_rfl⟩
theorem i_laws_eqActed {xs : List A} {res : V} {outs : List (List V)} (hrun : forceH (iniH 17 xs) fun H => W Try.prog 17 (bodyOf Try.f75) H (EndsW 17 E [(4, 4, false)] xs (Q1 res outs))) (h : (okAs xs && Nat.ble xs.length 17) = true := by rfl) : F 75 xs res outs := ⟨e_laws_eqActed, Fn.one Try.func75 rfl rfl E_ok rfl h hrun⟩
abbrev n_laws_eqWorker : FuncId := 76
theorem e_laws_eqWorker : Enters Try.prog 76 := ⟨Try.f76, Try.func76, by kernel_rfl, by kernel_rfl⟩
theorem i_laws_eqWorker {xs : List A} {res : V} {outs : List (List V)} (hrun : forceH (iniH 61 xs) fun H => W Try.prog 61 (bodyOf Try.f76) H (EndsW 61 E [(4, 4, false)] xs (Q1 res outs))) (h : (okAs xs && Nat.ble xs.length 61) = true := by rfl) : F 76 xs res outs := ⟨e_laws_eqWorker, Fn.one Try.func76 rfl rfl E_ok rfl h hrun⟩
abbrev n_laws_markWorker : FuncId := 77
theorem e_laws_markWorker : Enters Try.prog 77 := ⟨Try.f77, Try.func77, by kernel_rfl, by kernel_rfl⟩
theorem i_laws_markWorker {xs : List A} {res : V} {outs : List (List V)} (hrun : forceH (iniH 10 xs) fun H => W Try.prog 10 (bodyOf Try.f77) H (EndsW 10 E [(4, 3, false)] xs (Q1 res outs))) (h : (okAs xs && Nat.ble xs.length 10) = true := by rfl) : F 77 xs res outs := ⟨e_laws_markWorker, Fn.one Try.func77 rfl rfl E_ok rfl h hrun⟩
abbrev n_laws_markActed : FuncId := 78
theorem e_laws_markActed : Enters Try.prog 78 := ⟨Try.f78, Try.func78, by kernel_rfl, by kernel_rfl⟩
theorem i_laws_markActed {xs : List A} {res : V} {outs : List (List V)} (hrun : forceH (iniH 14 xs) fun H => W Try.prog 14 (bodyOf Try.f78) H (EndsW 14 E [(4, 3, false)] xs (Q1 res outs))) (h : (okAs xs && Nat.ble xs.length 14) = true := by rfl) : F 78 xs res outs := ⟨e_laws_markActed, Fn.one Try.func78 rfl rfl E_ok rfl h hrun⟩
abbrev n_laws_heldActed : FuncId := 79
theorem e_laws_heldActed : Enters Try.prog 79 := ⟨Try.f79, Try.func79, by kernel_rfl, by kernel_rfl⟩
theorem i_laws_heldActed {xs : List A} {res : V} {outs : List (List V)} (hrun : forceH (iniH 18 xs) fun H => W Try.prog 18 (bodyOf Try.f79) H (EndsW 18 E [(4, 3, false)] xs (Q1 res outs))) (h : (okAs xs && Nat.ble xs.length 18) = true := by rfl) : F 79 xs res outs := ⟨e_laws_heldActed, Fn.one Try.func79 rfl rfl E_ok rfl h hrun⟩
abbrev n_spec_WorkerTake : FuncId := 80
theorem e_spec_WorkerTake : Enters Try.prog 80 := ⟨Try.f80, Try.func80, by kernel_rfl, by kernel_rfl⟩
theorem i_spec_WorkerTake {xs : List A} {res : V} {outs : List (List V)} (hrun : forceH (iniH 121 xs) fun H => W Try.prog 121 (bodyOf Try.f80) H (EndsW 121 E [(6, 97, true)] xs (Q1 res outs))) (h : (okAs xs && Nat.ble xs.length 121) = true := by rfl) : F 80 xs res outs := ⟨e_spec_WorkerTake, Fn.one Try.func80 rfl rfl E_ok rfl h hrun⟩
abbrev n_spec_l2Ok : FuncId := 86
theorem e_spec_l2Ok : Enters Try.prog 86 := ⟨Try.f86, Try.func86, by kernel_rfl, by kernel_rfl⟩
theorem i_spec_l2Ok {xs : List A} {res : V} {outs : List (List V)} (hrun : forceH (iniH 120 xs) fun H => W Try.prog 120 (bodyOf Try.f86) H (EndsW 120 E [(2, 4, false)] xs (Q1 res outs))) (h : (okAs xs && Nat.ble xs.length 120) = true := by rfl) : F 86 xs res outs := ⟨e_spec_l2Ok, Fn.one Try.func86 rfl rfl E_ok rfl h hrun⟩
abbrev n_impl_Message_valid : FuncId := 89
theorem e_impl_Message_valid : Enters Try.prog 89 := ⟨Try.f89, Try.func89, by kernel_rfl, by kernel_rfl⟩
theorem i_impl_Message_valid {xs : List A} {res : V} {outs : List (List V)} (hrun : forceH (iniH 108 xs) fun H => W Try.prog 108 (bodyOf Try.f89) H (EndsW 108 E [(2, 4, false)] xs (Q1 res outs))) (h : (okAs xs && Nat.ble xs.length 108) = true := by rfl) : F 89 xs res outs := ⟨e_impl_Message_valid, Fn.one Try.func89 rfl rfl E_ok rfl h hrun⟩
abbrev n_impl_plain : FuncId := 96
theorem e_impl_plain : Enters Try.prog 96 := ⟨Try.f96, Try.func96, by kernel_rfl, by kernel_rfl⟩
theorem i_impl_plain {xs : List A} {res : V} {outs : List (List V)} (hrun : forceH (iniH 28 xs) fun H => W Try.prog 28 (bodyOf Try.f96) H (EndsW 28 E [(2, 4, false)] xs (Q1 res outs))) (h : (okAs xs && Nat.ble xs.length 28) = true := by rfl) : F 96 xs res outs := ⟨e_impl_plain, Fn.one Try.func96 rfl rfl E_ok rfl h hrun⟩
abbrev n_spec_l1NameOk : FuncId := 97
theorem e_spec_l1NameOk : Enters Try.prog 97 := ⟨Try.f97, Try.func97, by kernel_rfl, by kernel_rfl⟩
theorem i_spec_l1NameOk {xs : List A} {res : V} {outs : List (List V)} (hrun : forceH (iniH 28 xs) fun H => W Try.prog 28 (bodyOf Try.f97) H (EndsW 28 E [(2, 4, false)] xs (Q1 res outs))) (h : (okAs xs && Nat.ble xs.length 28) = true := by rfl) : F 97 xs res outs := ⟨e_spec_l1NameOk, Fn.one Try.func97 rfl rfl E_ok rfl h hrun⟩
abbrev n_laws_szTaskS : FuncId := 100
theorem e_laws_szTaskS : Enters Try.prog 100 := ⟨Try.f100, Try.func100, by kernel_rfl, by kernel_rfl⟩
theorem i_laws_szTaskS {xs : List A} {res : V} {outs : List (List V)} (hrun : forceH (iniH 27 xs) fun H => W Try.prog 27 (bodyOf Try.f100) H (EndsW 27 E [(4, 3, false)] xs (Q1 res outs))) (h : (okAs xs && Nat.ble xs.length 27) = true := by rfl) : F 100 xs res outs := ⟨e_laws_szTaskS, Fn.one Try.func100 rfl rfl E_ok rfl h hrun⟩
abbrev n_laws_toTaskS : FuncId := 101
theorem e_laws_toTaskS : Enters Try.prog 101 := ⟨Try.f101, Try.func101, by kernel_rfl, by kernel_rfl⟩
theorem i_laws_toTaskS {xs : List A} {res : V} {outs : List (List V)} (hrun : forceH (iniH 23 xs) fun H => W Try.prog 23 (bodyOf Try.f101) H (EndsW 23 E [(2, 32, false)] xs (Q1 res outs))) (h : (okAs xs && Nat.ble xs.length 23) = true := by rfl) : F 101 xs res outs := ⟨e_laws_toTaskS, Fn.one Try.func101 rfl rfl E_ok rfl h hrun⟩
abbrev n_laws_eqTaskS : FuncId := 102
theorem e_laws_eqTaskS : Enters Try.prog 102 := ⟨Try.f102, Try.func102, by kernel_rfl, by kernel_rfl⟩
theorem i_laws_eqTaskS {xs : List A} {res : V} {outs : List (List V)} (hrun : forceH (iniH 27 xs) fun H => W Try.prog 27 (bodyOf Try.f102) H (EndsW 27 E [(4, 4, false)] xs (Q1 res outs))) (h : (okAs xs && Nat.ble xs.length 27) = true := by rfl) : F 102 xs res outs := ⟨e_laws_eqTaskS, Fn.one Try.func102 rfl rfl E_ok rfl h hrun⟩
abbrev n_laws_markTaskS : FuncId := 103
theorem e_laws_markTaskS : Enters Try.prog 103 := ⟨Try.f103, Try.func103, by kernel_rfl, by kernel_rfl⟩
theorem i_laws_markTaskS {xs : List A} {res : V} {outs : List (List V)} (hrun : forceH (iniH 35 xs) fun H => W Try.prog 35 (bodyOf Try.f103) H (EndsW 35 E [(4, 3, false)] xs (Q1 res outs))) (h : (okAs xs && Nat.ble xs.length 35) = true := by rfl) : F 103 xs res outs := ⟨e_laws_markTaskS, Fn.one Try.func103 rfl rfl E_ok rfl h hrun⟩
abbrev n_laws_markText : FuncId := 104
theorem e_laws_markText : Enters Try.prog 104 := ⟨Try.f104, Try.func104, by kernel_rfl, by kernel_rfl⟩
theorem i_laws_markText {xs : List A} {res : V} {outs : List (List V)} (hrun : forceH (iniH 20 xs) fun H => W Try.prog 20 (bodyOf Try.f104) H (EndsW 20 E [(2, 9, false)] xs (Q1 res outs))) (h : (okAs xs && Nat.ble xs.length 20) = true := by rfl) : F 104 xs res outs := ⟨e_laws_markText, Fn.one Try.func104 rfl rfl E_ok rfl h hrun⟩
abbrev n_spec_l2In : FuncId := 121
theorem e_spec_l2In : Enters Try.prog 121 := ⟨Try.f121, Try.func121, by kernel_rfl, by kernel_rfl⟩
theorem i_spec_l2In {xs : List A} {res : V} {outs : List (List V)} (hrun : forceH (iniH 15 xs) fun H => W Try.prog 15 (bodyOf Try.f121) H (EndsW 15 E [(6, 4, false)] xs (Q1 res outs))) (h : (okAs xs && Nat.ble xs.length 15) = true := by rfl) : F 121 xs res outs := ⟨e_spec_l2In, Fn.one Try.func121 rfl rfl E_ok rfl h hrun⟩
abbrev n_spec_l2LeaseOk : FuncId := 122
theorem e_spec_l2LeaseOk : Enters Try.prog 122 := ⟨Try.f122, Try.func122, by kernel_rfl, by kernel_rfl⟩
theorem i_spec_l2LeaseOk {xs : List A} {res : V} {outs : List (List V)} (hrun : forceH (iniH 5 xs) fun H => W Try.prog 5 (bodyOf Try.f122) H (EndsW 5 E [(2, 4, false)] xs (Q1 res outs))) (h : (okAs xs && Nat.ble xs.length 5) = true := by rfl) : F 122 xs res outs := ⟨e_spec_l2LeaseOk, Fn.one Try.func122 rfl rfl E_ok rfl h hrun⟩
abbrev n_spec_l2InputsOk : FuncId := 123
theorem e_spec_l2InputsOk : Enters Try.prog 123 := ⟨Try.f123, Try.func123, by kernel_rfl, by kernel_rfl⟩
theorem i_spec_l2InputsOk {xs : List A} {res : V} {outs : List (List V)} (hrun : forceH (iniH 19 xs) fun H => W Try.prog 19 (bodyOf Try.f123) H (EndsW 19 E [(2, 4, false)] xs (Q1 res outs))) (h : (okAs xs && Nat.ble xs.length 19) = true := by rfl) : F 123 xs res outs := ⟨e_spec_l2InputsOk, Fn.one Try.func123 rfl rfl E_ok rfl h hrun⟩
abbrev n_impl_within : FuncId := 124
theorem e_impl_within : Enters Try.prog 124 := ⟨Try.f124, Try.func124, by kernel_rfl, by kernel_rfl⟩
theorem i_impl_within {xs : List A} {res : V} {outs : List (List V)} (hrun : forceH (iniH 15 xs) fun H => W Try.prog 15 (bodyOf Try.f124) H (EndsW 15 E [(6, 4, false)] xs (Q1 res outs))) (h : (okAs xs && Nat.ble xs.length 15) = true := by rfl) : F 124 xs res outs := ⟨e_impl_within, Fn.one Try.func124 rfl rfl E_ok rfl h hrun⟩
abbrev n_impl_eights : FuncId := 125
theorem e_impl_eights : Enters Try.prog 125 := ⟨Try.f125, Try.func125, by kernel_rfl, by kernel_rfl⟩
theorem i_impl_eights {xs : List A} {res : V} {outs : List (List V)} (hrun : forceH (iniH 18 xs) fun H => W Try.prog 18 (bodyOf Try.f125) H (EndsW 18 E [(2, 4, false)] xs (Q1 res outs))) (h : (okAs xs && Nat.ble xs.length 18) = true := by rfl) : F 125 xs res outs := ⟨e_impl_eights, Fn.one Try.func125 rfl rfl E_ok rfl h hrun⟩
abbrev n_impl_Worker_twin : FuncId := 126
theorem e_impl_Worker_twin : Enters Try.prog 126 := ⟨Try.f126, Try.func126, by kernel_rfl, by kernel_rfl⟩
theorem i_impl_Worker_twin {xs : List A} {res : V} {outs : List (List V)} (hrun : forceH (iniH 8 xs) fun H => W Try.prog 8 (bodyOf Try.f126) H (EndsW 8 E [(2, 92, true)] xs (Q1 res outs))) (h : (okAs xs && Nat.ble xs.length 8) = true := by rfl) : F 126 xs res outs := ⟨e_impl_Worker_twin, Fn.one Try.func126 rfl rfl E_ok rfl h hrun⟩
abbrev n_impl_Worker_take : FuncId := 127
theorem e_impl_Worker_take : Enters Try.prog 127 := ⟨Try.f127, Try.func127, by kernel_rfl, by kernel_rfl⟩
theorem i_impl_Worker_take {xs : List A} {res : V} {outs : List (List V)} (hrun : forceH (iniH 95 xs) fun H => W Try.prog 95 (bodyOf Try.f127) H (EndsW 95 E [(6, 92, true)] xs (Q1 res outs))) (h : (okAs xs && Nat.ble xs.length 95) = true := by rfl) : F 127 xs res outs := ⟨e_impl_Worker_take, Fn.one Try.func127 rfl rfl E_ok rfl h hrun⟩
abbrev n_spec_l3Copy : FuncId := 129
theorem e_spec_l3Copy : Enters Try.prog 129 := ⟨Try.f129, Try.func129, by kernel_rfl, by kernel_rfl⟩
theorem i_spec_l3Copy {xs : List A} {res : V} {outs : List (List V)} (hrun : forceH (iniH 9 xs) fun H => W Try.prog 9 (bodyOf Try.f129) H (EndsW 9 E [(2, 92, true)] xs (Q1 res outs))) (h : (okAs xs && Nat.ble xs.length 9) = true := by rfl) : F 129 xs res outs := ⟨e_spec_l3Copy, Fn.one Try.func129 rfl rfl E_ok rfl h hrun⟩
abbrev n_laws_heldWorker : FuncId := 131
theorem e_laws_heldWorker : Enters Try.prog 131 := ⟨Try.f131, Try.func131, by kernel_rfl, by kernel_rfl⟩
theorem i_laws_heldWorker {xs : List A} {res : V} {outs : List (List V)} (hrun : forceH (iniH 12 xs) fun H => W Try.prog 12 (bodyOf Try.f131) H (EndsW 12 E [(4, 3, false)] xs (Q1 res outs))) (h : (okAs xs && Nat.ble xs.length 12) = true := by rfl) : F 131 xs res outs := ⟨e_laws_heldWorker, Fn.one Try.func131 rfl rfl E_ok rfl h hrun⟩
abbrev n_laws_heldMessageS : FuncId := 132
theorem e_laws_heldMessageS : Enters Try.prog 132 := ⟨Try.f132, Try.func132, by kernel_rfl, by kernel_rfl⟩
theorem i_laws_heldMessageS {xs : List A} {res : V} {outs : List (List V)} (hrun : forceH (iniH 86 xs) fun H => W Try.prog 86 (bodyOf Try.f132) H (EndsW 86 E [(4, 3, false)] xs (Q1 res outs))) (h : (okAs xs && Nat.ble xs.length 86) = true := by rfl) : F 132 xs res outs := ⟨e_laws_heldMessageS, Fn.one Try.func132 rfl rfl E_ok rfl h hrun⟩
abbrev n_spec_l3Free : FuncId := 133
theorem e_spec_l3Free : Enters Try.prog 133 := ⟨Try.f133, Try.func133, by kernel_rfl, by kernel_rfl⟩
theorem i_spec_l3Free {xs : List A} {res : V} {outs : List (List V)} (hrun : forceH (iniH 13 xs) fun H => W Try.prog 13 (bodyOf Try.f133) H (EndsW 13 E [(4, 92, true)] xs (Q1 res outs))) (h : (okAs xs && Nat.ble xs.length 13) = true := by rfl) : F 133 xs res outs := ⟨e_spec_l3Free, Fn.one Try.func133 rfl rfl E_ok rfl h hrun⟩
abbrev n_spec_l2Uses : FuncId := 149
theorem e_spec_l2Uses : Enters Try.prog 149 := ⟨Try.f149, Try.func149, by kernel_rfl, by kernel_rfl⟩
theorem i_spec_l2Uses {xs : List A} {res : V} {outs : List (List V)} (hrun : forceH (iniH 16 xs) fun H => W Try.prog 16 (bodyOf Try.f149) H (EndsW 16 E [(2, 4, false), (3, 4, false), (4, 4, false), (5, 4, false), (6, 4, false)] xs (Q1 res outs))) (h : (okAs xs && Nat.ble xs.length 16) = true := by rfl) : F 149 xs res outs := ⟨e_spec_l2Uses, Fn.one Try.func149 rfl rfl E_ok rfl h hrun⟩
abbrev n_laws_szTask : FuncId := 152
theorem e_laws_szTask : Enters Try.prog 152 := ⟨Try.f152, Try.func152, by kernel_rfl, by kernel_rfl⟩
theorem i_laws_szTask {xs : List A} {res : V} {outs : List (List V)} (hrun : forceH (iniH 19 xs) fun H => W Try.prog 19 (bodyOf Try.f152) H (EndsW 19 E [(4, 3, false)] xs (Q1 res outs))) (h : (okAs xs && Nat.ble xs.length 19) = true := by rfl) : F 152 xs res outs := ⟨e_laws_szTask, Fn.one Try.func152 rfl rfl E_ok rfl h hrun⟩
abbrev n_laws_toTask : FuncId := 153
theorem e_laws_toTask : Enters Try.prog 153 := ⟨Try.f153, Try.func153, by kernel_rfl, by kernel_rfl⟩
theorem i_laws_toTask {xs : List A} {res : V} {outs : List (List V)} (hrun : forceH (iniH 15 xs) fun H => W Try.prog 15 (bodyOf Try.f153) H (EndsW 15 E [(2, 40, true)] xs (Q1 res outs))) (h : (okAs xs && Nat.ble xs.length 15) = true := by rfl) : F 153 xs res outs := ⟨e_laws_toTask, Fn.one Try.func153 rfl rfl E_ok rfl h hrun⟩
abbrev n_laws_eqTask : FuncId := 154
theorem e_laws_eqTask : Enters Try.prog 154 := ⟨Try.f154, Try.func154, by kernel_rfl, by kernel_rfl⟩
theorem i_laws_eqTask {xs : List A} {res : V} {outs : List (List V)} (hrun : forceH (iniH 21 xs) fun H => W Try.prog 21 (bodyOf Try.f154) H (EndsW 21 E [(4, 4, false)] xs (Q1 res outs))) (h : (okAs xs && Nat.ble xs.length 21) = true := by rfl) : F 154 xs res outs := ⟨e_laws_eqTask, Fn.one Try.func154 rfl rfl E_ok rfl h hrun⟩
abbrev n_laws_markIntS : FuncId := 155
theorem e_laws_markIntS : Enters Try.prog 155 := ⟨Try.f155, Try.func155, by kernel_rfl, by kernel_rfl⟩
theorem i_laws_markIntS {xs : List A} {res : V} {outs : List (List V)} (hrun : forceH (iniH 19 xs) fun H => W Try.prog 19 (bodyOf Try.f155) H (EndsW 19 E [(4, 3, false)] xs (Q1 res outs))) (h : (okAs xs && Nat.ble xs.length 19) = true := by rfl) : F 155 xs res outs := ⟨e_laws_markIntS, Fn.one Try.func155 rfl rfl E_ok rfl h hrun⟩
abbrev n_impl_clone : FuncId := 159
theorem e_impl_clone : Enters Try.prog 159 := ⟨Try.f159, Try.func159, by kernel_rfl, by kernel_rfl⟩
theorem i_impl_clone {xs : List A} {res : V} {outs : List (List V)} (hrun : forceH (iniH 6 xs) fun H => W Try.prog 6 (bodyOf Try.f159) H (EndsW 6 E [(2, 22, false)] xs (Q1 res outs))) (h : (okAs xs && Nat.ble xs.length 6) = true := by rfl) : F 159 xs res outs := ⟨e_impl_clone, Fn.one Try.func159 rfl rfl E_ok rfl h hrun⟩
abbrev n_impl_Worker_freed : FuncId := 160
theorem e_impl_Worker_freed : Enters Try.prog 160 := ⟨Try.f160, Try.func160, by kernel_rfl, by kernel_rfl⟩
theorem i_impl_Worker_freed {xs : List A} {res : V} {outs : List (List V)} (hrun : forceH (iniH 13 xs) fun H => W Try.prog 13 (bodyOf Try.f160) H (EndsW 13 E [(4, 92, true)] xs (Q1 res outs))) (h : (okAs xs && Nat.ble xs.length 13) = true := by rfl) : F 160 xs res outs := ⟨e_impl_Worker_freed, Fn.one Try.func160 rfl rfl E_ok rfl h hrun⟩
abbrev n_laws_szIntS : FuncId := 168
theorem e_laws_szIntS : Enters Try.prog 168 := ⟨Try.f168, Try.func168, by kernel_rfl, by kernel_rfl⟩
theorem i_laws_szIntS {xs : List A} {res : V} {outs : List (List V)} (hrun : forceH (iniH 12 xs) fun H => W Try.prog 12 (bodyOf Try.f168) H (EndsW 12 E [(4, 3, false)] xs (Q1 res outs))) (h : (okAs xs && Nat.ble xs.length 12) = true := by rfl) : F 168 xs res outs := ⟨e_laws_szIntS, Fn.one Try.func168 rfl rfl E_ok rfl h hrun⟩
abbrev n_laws_toIntS : FuncId := 169
theorem e_laws_toIntS : Enters Try.prog 169 := ⟨Try.f169, Try.func169, by kernel_rfl, by kernel_rfl⟩
theorem i_laws_toIntS {xs : List A} {res : V} {outs : List (List V)} (hrun : forceH (iniH 22 xs) fun H => W Try.prog 22 (bodyOf Try.f169) H (EndsW 22 E [(2, 38, false)] xs (Q1 res outs))) (h : (okAs xs && Nat.ble xs.length 22) = true := by rfl) : F 169 xs res outs := ⟨e_laws_toIntS, Fn.one Try.func169 rfl rfl E_ok rfl h hrun⟩
abbrev n_laws_eqIntS : FuncId := 170
theorem e_laws_eqIntS : Enters Try.prog 170 := ⟨Try.f170, Try.func170, by kernel_rfl, by kernel_rfl⟩
theorem i_laws_eqIntS {xs : List A} {res : V} {outs : List (List V)} (hrun : forceH (iniH 26 xs) fun H => W Try.prog 26 (bodyOf Try.f170) H (EndsW 26 E [(4, 4, false)] xs (Q1 res outs))) (h : (okAs xs && Nat.ble xs.length 26) = true := by rfl) : F 170 xs res outs := ⟨e_laws_eqIntS, Fn.one Try.func170 rfl rfl E_ok rfl h hrun⟩
end Go.K

end

section
set_option linter.unusedVariables false
set_option linter.unusedSimpArgs false
set_option maxHeartbeats 4000000
set_option maxRecDepth 20000
open Go Go.Tm Go.Proofs
namespace Go.K
structure Entry where
  kind : Int
  epoch : Int
  task : Int
  text : ByteArray
  deriving DecidableEq
abbrev entryV (k ep ta : Int) (tx : ByteArray) : V := .agg [.t (.i k), .t (.i ep), .t (.i ta), .t (.s tx)]
abbrev Entry.v (e : Entry) : V := entryV e.kind e.epoch e.task e.text
theorem c_impl_within (x lo hi : Int) : F n_impl_within [.val (.i x), .val (.i lo), .val (.i hi)] (.b (decide (lo ≤ x ∧ x ≤ hi))) [[], [], []] := by
  refine i_impl_within ?_
  conv => whnf
  refine g 0 0 [] ?_
  conv => whnf
  refine ⟨⟨I, I⟩, ?_⟩
  by_cases h1 : lo ≤ x
  refine g 7 15 [.b (true), .b (true), .b (true), .b (true)] ?_
  conv => whnf
  refine ⟨⟨I, I, I, I, ⟨decide_eq_true (by omega), I⟩, ⟨decide_eq_true (by omega), I⟩, ⟨decide_eq_true (by omega), I⟩, decide_eq_true (by omega), I, I⟩, ?_⟩
  refine W.ret ?_
  refine EndsW.rt ?_
  conv => whnf
  refine ⟨⟨I, I, I⟩, ?_, rfl⟩
  exact vbd (by omega)
  refine g 7 15 [.b (false), .b (false), .b (false), .b (false)] ?_
  conv => whnf
  refine ⟨⟨I, I, I, I, decide_eq_false (by omega), decide_eq_false (by omega), decide_eq_false (by omega), decide_eq_false (by omega), I, I⟩, ?_⟩
  refine W.ret ?_
  refine EndsW.rt ?_
  conv => whnf
  refine ⟨⟨I, I, I⟩, ?_, rfl⟩
  exact vbf (by omega)
theorem c_spec_l2In (x lo hi : Int) : F n_spec_l2In [.val (.i x), .val (.i lo), .val (.i hi)] (.b (decide (lo ≤ x ∧ x ≤ hi))) [[], [], []] := by
  refine i_spec_l2In ?_
  conv => whnf
  refine g 0 0 [] ?_
  conv => whnf
  refine ⟨⟨I, I⟩, ?_⟩
  by_cases h1 : lo ≤ x
  refine g 7 15 [.b (true), .b (true), .b (true), .b (true)] ?_
  conv => whnf
  refine ⟨⟨I, I, I, I, ⟨decide_eq_true (by omega), I⟩, ⟨decide_eq_true (by omega), I⟩, ⟨decide_eq_true (by omega), I⟩, decide_eq_true (by omega), I, I⟩, ?_⟩
  refine W.ret ?_
  refine EndsW.rt ?_
  conv => whnf
  refine ⟨⟨I, I, I⟩, ?_, rfl⟩
  exact vbd (by omega)
  refine g 7 15 [.b (false), .b (false), .b (false), .b (false)] ?_
  conv => whnf
  refine ⟨⟨I, I, I, I, decide_eq_false (by omega), decide_eq_false (by omega), decide_eq_false (by omega), decide_eq_false (by omega), I, I⟩, ?_⟩
  refine W.ret ?_
  refine EndsW.rt ?_
  conv => whnf
  refine ⟨⟨I, I, I⟩, ?_, rfl⟩
  exact vbf (by omega)
end Go.K

end

section
set_option linter.unusedVariables false
set_option linter.unusedSimpArgs false
set_option maxHeartbeats 4000000
set_option maxRecDepth 20000
open Go Go.Tm Go.Proofs
namespace Go.K
def Entry.ok (e : Entry) : Prop := (1 ≤ e.epoch ∧ e.epoch ≤ 300) ∧ (0 ≤ e.task ∧ e.task ≤ 39) ∧ ((e.kind = 1 ∧ e.task = 0 ∧ e.text = ⟨#[]⟩) ∨ (e.kind = 2 ∧ (e.text.size : Int) = 8))
instance (e : Entry) : Decidable e.ok := by unfold Entry.ok; infer_instance
abbrev emp : ByteArray := ⟨#[]⟩
def bl (l : List Int) : ByteArray := ⟨(l.map fun n => UInt8.ofNat n.toNat).toArray⟩
end Go.K

end

section
set_option linter.unusedVariables false
set_option linter.unusedSimpArgs false
set_option maxHeartbeats 4000000
set_option maxRecDepth 20000
open Go Go.Tm Go.Proofs
namespace Go.K
abbrev strT (s : ByteArray) : List T := [.s s]
abbrev strs (xs : List ByteArray) : T := .slc [false] (xs.map strT)
theorem c_laws_szStringS (xs : List ByteArray) (left : Int) (hl : xs.length ≤ 9223372036854775807) (hs : ∀ s ∈ xs, s.size ≤ 9223372036854775807) (h : left ≤ 1048576) (h0 : 0 ≤ left) :
    F n_laws_szStringS [.val (.t (strs xs)), .val (.i left)] (.i (if left - xs.length - totS xs < 0 then -1 else left - xs.length - totS xs)) [[], []] := by
  have hnn := totS_nn xs
  refine i_laws_szStringS ?_
  conv => whnf
  refine g 0 0 [] ?_
  conv => whnf
  refine ⟨⟨I, I⟩, ?_⟩
  refine g 6 10 [.i (left - (↑(List.length (List.map strT xs)) : Int))] ?_
  conv => whnf
  refine ⟨⟨I, I, I, w64 (by simp only [List.length_map, List.length_append, List.length_set, List.length_replicate, List.length_cons, List.length_nil, List.length_take, List.length_drop, fill_len, fillI_len, List.length_range, bytesT_len]; omega) (by simp only [List.length_map, List.length_append, List.length_set, List.length_replicate, List.length_cons, List.length_nil, List.length_take, List.length_drop, fill_len, fillI_len, List.length_range, bytesT_len]; omega), I, I⟩, ?_⟩
  refine W.sq ?_
  refine g 10 11 [] ?_
  conv => whnf
  refine ⟨⟨I, I, I⟩, ?_⟩
  refine W.cn ?_
  conv => whnf
  refine ⟨fun h1 => ?_, fun h1 => ?_⟩
  replace h1 := dt h1
  simp only [List.length_map] at h1
  refine g 11 12 [] ?_
  conv => whnf
  refine ⟨⟨I, I⟩, ?_⟩
  refine W.ret ?_
  refine EndsW.rt ?_
  conv => whnf
  refine ⟨⟨I, I, I⟩, ?_, rfl⟩
  exact vi (by omega)
  replace h1 := df h1
  simp only [List.length_map] at h1
  refine W.skip ?_
  refine W.sq ?_
  refine g 11 12 [] ?_
  conv => whnf
  refine ⟨⟨I, I⟩, ?_⟩
  refine W.blk ?_
  refine W.lp (fun s (n : Nat) => ⟨[(0, s.s 0), (1, .i (left - xs.length - totS (xs.take n))), (5, .i n)], [], []⟩) (fun (n : Nat) => n ≤ xs.length ∧ 0 ≤ left - xs.length - totS (xs.take n)) (fun (n : Nat) => xs.length - n) (0) [] [] ⟨rfl, ⟨rfl, (congrArg (fun z => V.t (T.v (Value.int _ z))) (by simp [totS])), rfl, I⟩, I, I⟩ ?_ ?_
  · simp [totS]; omega
  rintro n ⟨hn, hc⟩
  have hq := totS_nn (xs.take n)
  have hle := totS_le xs (n + 1)
  conv => whnf
  refine W.sq ?_
  refine g 12 15 [] ?_
  conv => whnf
  refine ⟨⟨I, I, I, I, I⟩, ?_⟩
  refine W.cn ?_
  conv => whnf
  refine ⟨fun h2 => ?_, fun h2 => ?_⟩
  replace h2 := dt h2
  simp only [List.length_map] at h2
  refine W.skip ?_
  refine W.sq ?_
  refine W.blk ?_
  obtain ⟨y1, hy1⟩ := some_at (xs := xs) (n := n) (by omega)
  have hm1 := hs y1 (List.mem_of_getElem? hy1)
  have hk1 := totS_take hy1
  refine g 15 25 [.x (strT y1), .i (left - (↑(List.length xs) : Int) - totS (List.take n xs) - (↑(ByteArray.size y1) : Int))] ?_
  conv => whnf
  refine ⟨⟨I, I, I, ⟨(by omega), ixl (by assumption)⟩, I, I, w64 (by omega) (by omega), I, I⟩, ?_⟩
  refine g 25 26 [] ?_
  conv => whnf
  refine ⟨⟨I, I, I⟩, ?_⟩
  refine W.cn ?_
  conv => whnf
  refine ⟨fun h3 => ?_, fun h3 => ?_⟩
  replace h3 := dt h3
  refine g 26 27 [] ?_
  conv => whnf
  refine ⟨⟨I, I⟩, ?_⟩
  refine W.ret ?_
  refine EndsW.rt ?_
  conv => whnf
  refine ⟨⟨I, I, I⟩, ?_, rfl⟩
  exact vi (by omega)
  replace h3 := df h3
  refine W.skip ?_
  refine rg [.i ((↑n : Int) + (1 : Int))] ?_
  conv => whnf
  refine ⟨⟨I, w64 (by omega) (by omega), I, I⟩, ?_⟩
  rotate_left 1
  replace h2 := df h2
  simp only [List.length_map] at h2
  refine W.exit ?_
  refine g 5 28 [] ?_
  conv => whnf
  refine ⟨⟨I, I, I⟩, ?_⟩
  refine W.ret ?_
  refine EndsW.rt ?_
  conv => whnf
  refine ⟨⟨I, I, I⟩, ?_, rfl⟩
  rotate_left 1
  · refine ⟨n + 1, [], [], ⟨rfl, ⟨rfl, (congrArg (fun z => V.t (T.v (Value.int _ z))) (by rw [totS_take (by assumption)]; omega)), rfl, I⟩, I, I⟩, ?_, ?_⟩
    rotate_left 1
    (dsimp only; omega)
    dsimp only
    omega
  · have e : xs.take n = xs := List.take_of_length_le (by omega)
    rw [e] at hc ⊢
    exact vi (by split <;> omega)
theorem c_laws_toStringS (xs : List ByteArray) (hl : xs.length ≤ 1048576) : F n_laws_toStringS [.val (.t (strs xs))] (.own [false] (xs.map strT)) [[]] := by
  refine i_laws_toStringS ?_
  conv => whnf
  refine g 0 0 [] ?_
  conv => whnf
  refine ⟨⟨I, I⟩, ?_⟩
  refine g 5 8 [.n (List.length (List.map strT xs))] ?_
  conv => whnf
  refine ⟨⟨I, I, ⟨rfl, rfl, (by simp only [List.length_map, List.length_append, List.length_set, List.length_replicate, List.length_cons, List.length_nil, List.length_take, List.length_drop, fill_len, fillI_len, List.length_range, bytesT_len]; omega)⟩, I, I⟩, ?_⟩
  refine W.sq ?_
  refine g 0 0 [] ?_
  conv => whnf
  refine ⟨⟨I, I⟩, ?_⟩
  refine W.blk ?_
  refine W.lp (fun s (n : Nat) => ⟨[(0, s.s 0), (2, s.s 2), (3, s.s 3), (4, .i n)], [(7, [.own [false] (fill strT (strT emp) xs n)])], []⟩) (fun (n : Nat) => n ≤ xs.length) (fun (n : Nat) => xs.length - n) (0) [some 7] [] ⟨rfl, ⟨rfl, rfl, rfl, rfl, I⟩, ⟨⟨rfl, ⟨(congrArg (V.own _) (fill_zero' (by simp) rfl)), I⟩⟩, I⟩, I⟩ (by omega) ?_
  intro n hn
  conv => whnf
  refine W.sq ?_
  refine g 8 11 [] ?_
  conv => whnf
  refine ⟨⟨I, I, I, I, I⟩, ?_⟩
  refine W.cn ?_
  conv => whnf
  refine ⟨fun h1 => ?_, fun h1 => ?_⟩
  replace h1 := dt h1
  simp only [List.length_map] at h1
  refine W.skip ?_
  refine W.sq ?_
  refine W.blk ?_
  obtain ⟨y1, hy1⟩ := some_at (xs := xs) (n := n) (by omega)
  refine rg [.x (strT y1), .n (n), .x (strT emp)] ?_
  conv => whnf
  refine ⟨⟨I, I, I, I, ⟨(by omega), ixl (by assumption)⟩, I, ⟨rfl, (by simp only [List.length_map, List.length_append, List.length_set, List.length_replicate, List.length_cons, List.length_nil, List.length_take, List.length_drop, fill_len, fillI_len, List.length_range, bytesT_len]; omega)⟩, ⟨⟨I, I⟩, fill_get (by omega)⟩, I⟩, ?_⟩
  refine rg [.i ((↑n : Int) + (1 : Int))] ?_
  conv => whnf
  refine ⟨⟨I, w64 (by omega) (by omega), I, I⟩, ?_⟩
  rotate_left 1
  replace h1 := df h1
  simp only [List.length_map] at h1
  refine W.exit ?_
  refine g 3 22 [] ?_
  conv => whnf
  refine ⟨⟨I, I, I⟩, ?_⟩
  refine W.ret ?_
  refine EndsW.rt ?_
  conv => whnf
  refine ⟨⟨I, I, I⟩, ?_, rfl⟩
  rotate_left 1
  · refine ⟨n + 1, [some 7], [], ⟨rfl, ⟨rfl, rfl, rfl, rfl, I⟩, ⟨⟨rfl, ⟨(congrArg (V.own _) (fill_set (by assumption))), I⟩⟩, I⟩, I⟩, ?_, ?_⟩
    rotate_left 1
    (dsimp only; omega)
    dsimp only
    omega
  · have e : fill strT (strT emp) xs n = xs.map strT := fill_all _ _ _ (by omega)
    rw [← e]
theorem c_laws_eqStringS (xs ys : List ByteArray) (hl : xs.length ≤ 9223372036854775806) : F n_laws_eqStringS [.val (.t (strs xs)), .val (.t (strs ys))] (.b (decide (xs = ys))) [[], []] := by
  refine i_laws_eqStringS ?_
  conv => whnf
  refine g 0 0 [] ?_
  conv => whnf
  refine ⟨⟨I, I⟩, ?_⟩
  refine W.sq ?_
  refine g 6 10 [] ?_
  conv => whnf
  refine ⟨⟨I, I, I, I, I, I⟩, ?_⟩
  refine W.cn ?_
  conv => whnf
  refine ⟨fun h1 => ?_, fun h1 => ?_⟩
  replace h1 := ndt h1
  simp only [List.length_map] at h1
  refine g 10 11 [] ?_
  conv => whnf
  refine ⟨⟨I, I⟩, ?_⟩
  refine W.ret ?_
  refine EndsW.rt ?_
  conv => whnf
  refine ⟨⟨I, I, I⟩, ?_, rfl⟩
  rotate_left 1
  replace h1 := ndf h1
  simp only [List.length_map] at h1
  refine W.skip ?_
  refine W.sq ?_
  refine g 10 11 [] ?_
  conv => whnf
  refine ⟨⟨I, I⟩, ?_⟩
  refine W.blk ?_
  rotate_left 1
  · exact vbf (fun e => h1 (by rw [e]))
  refine W.lp (fun s (n : Nat) => ⟨[(0, s.s 0), (1, s.s 1), (5, .i n)], [], []⟩) (fun (n : Nat) => n ≤ xs.length ∧ xs.take n = ys.take n) (fun (n : Nat) => xs.length - n) (0) [] [] ⟨rfl, ⟨rfl, rfl, rfl, I⟩, I, I⟩ (by simp) ?_
  rintro n ⟨hn, hc⟩
  conv => whnf
  refine W.sq ?_
  refine g 11 14 [] ?_
  conv => whnf
  refine ⟨⟨I, I, I, I, I⟩, ?_⟩
  refine W.cn ?_
  conv => whnf
  refine ⟨fun h2 => ?_, fun h2 => ?_⟩
  replace h2 := dt h2
  simp only [List.length_map] at h2
  refine W.skip ?_
  refine W.sq ?_
  refine W.blk ?_
  obtain ⟨y1, hy1⟩ := some_at (xs := xs) (n := n) (by omega)
  obtain ⟨y2, hy2⟩ := some_at (xs := ys) (n := n) (by omega)
  refine gd 14 25 [[], [], [.x (strT y1)], [], [], [], [.x (strT y2)], [], []] ?_
  conv => whnf
  refine ⟨⟨I, I, ⟨(by omega), ixl (by assumption)⟩, I, I, I, ⟨(by omega), ixl (by assumption)⟩, I, I, I⟩, by kernel_rfl, ?_⟩
  refine W.cn ?_
  conv => whnf
  refine ⟨fun h3 => ?_, fun h3 => ?_⟩
  replace h3 := ndt h3
  refine g 25 26 [] ?_
  conv => whnf
  refine ⟨⟨I, I⟩, ?_⟩
  refine W.ret ?_
  refine EndsW.rt ?_
  conv => whnf
  refine ⟨⟨I, I, I⟩, ?_, rfl⟩
  rotate_left 1
  replace h3 := ndf h3
  refine W.skip ?_
  refine rg [.i ((↑n : Int) + (1 : Int))] ?_
  conv => whnf
  refine ⟨⟨I, w64 (by omega) (by omega), I, I⟩, ?_⟩
  rotate_left 1
  replace h2 := df h2
  simp only [List.length_map] at h2
  refine W.exit ?_
  refine g 0 2 [] ?_
  conv => whnf
  refine ⟨⟨I, I⟩, ?_⟩
  refine W.ret ?_
  refine EndsW.rt ?_
  conv => whnf
  refine ⟨⟨I, I, I⟩, ?_, rfl⟩
  rotate_left 1
  · exact vbf (fun e => by subst e; rw [hy1] at hy2; cases hy2; exact h3 rfl)
  · refine ⟨n + 1, [], [], ⟨rfl, ⟨rfl, rfl, rfl, I⟩, I, I⟩, ?_, ?_⟩
    rotate_left 1
    (dsimp only; omega)
    dsimp only
    exact ⟨by omega, by rw [List.take_add_one, List.take_add_one, hy1, hy2, hc, h3]⟩
  · exact vbt (by rw [List.take_of_length_le (by omega), List.take_of_length_le (by omega)] at hc; exact hc)
end Go.K

end

section
set_option linter.unusedVariables false
set_option linter.unusedSimpArgs false
set_option maxHeartbeats 4000000
set_option maxRecDepth 20000
open Go Go.Tm Go.Proofs
namespace Go.K
theorem map_of {α β : Type} {f : α → β} {p : α → Prop} : ∀ {xs : List β}, (∀ y ∈ xs, ∃ s, y = f s ∧ p s) → ∃ ys : List α, xs = ys.map f ∧ ∀ s ∈ ys, p s
  | [], _ => ⟨[], rfl, fun _ h => by cases h⟩
  | y :: xs, h => by
    obtain ⟨s, rfl, hp⟩ := h y (.head _)
    obtain ⟨ys, rfl, hq⟩ := map_of fun z hz => h z (.tail _ hz)
    exact ⟨s :: ys, rfl, fun z hz => by rcases List.mem_cons.1 hz with rfl | hz; exact hp; exact hq z hz⟩
theorem wf_strs {n : Nat} {xs : List (List T)} (h : ∀ y ∈ xs, wfT E (n + 1) 9 y) : ∃ ys : List ByteArray, xs = ys.map strT ∧ ∀ s ∈ ys, s.size ≤ 9223372036854775807 := map_of (p := fun s : ByteArray => s.size ≤ 9223372036854775807) fun y hy => h y hy
end Go.K

end

section
set_option linter.unusedVariables false
set_option linter.unusedSimpArgs false
set_option maxHeartbeats 4000000
set_option maxRecDepth 20000
open Go Go.Tm Go.Proofs
namespace Go.K
structure Parcel where
  kind : Int
  frm : ByteArray
  text : ByteArray
  deriving DecidableEq
abbrev noP : Parcel := ⟨0, emp, emp⟩
/-- The digits of a number ahead of a text. -/
def dgs (fuel : Nat) (k : Int) (s : ByteArray) : ByteArray := match fuel with
  | 0 => s
  | f + 1 => if k ≤ 0 then s else dgs f (k / 10) (bl [48 + k % 10] ++ s)
def markT (k : Int) : ByteArray := if k ≤ 0 then bl [109, 48] else bl [109] ++ dgs 20 k emp
theorem dgs_step {f : Nat} {a : Int} {t : ByteArray} (h0 : 0 < a) (h : a < 10 ^ f) : ∃ g, f = g + 1 ∧ a / 10 < 10 ^ g ∧ dgs f a t = dgs g (a / 10) (bl [48 + a % 10] ++ t) := by
  cases f with
  | zero => simp at h; omega
  | succ g =>
    refine ⟨g, rfl, ?_, ?_⟩
    · rw [Int.pow_succ] at h; omega
    · rw [dgs, if_neg (by omega)]
theorem dgs_end {f : Nat} {a : Int} {t : ByteArray} (h0 : ¬ 0 < a) : dgs f a t = t := by
  cases f with
  | zero => rfl
  | succ g => rw [dgs, if_pos (by omega)]
theorem mt_div {a : Int} (h0 : 0 ≤ a) (h1 : a ≤ 1099511627776) : IntKind.i64.wrap (a.tdiv 10) = a / 10 := by
  rw [Int.tdiv_eq_ediv_of_nonneg h0, w64 (by omega) (by omega)]
theorem mt_dig {a : Int} {t : ByteArray} (h0 : 0 ≤ a) : (⟨(bytesOf [[T.v (Value.int IntKind.u8 (IntKind.u8.wrap (IntKind.i64.wrap (48 + a.tmod 10))))]]).toArray⟩ : ByteArray) ++ t = bl [48 + a % 10] ++ t := by
  rw [Int.tmod_eq_emod_of_nonneg h0, w64 (by omega) (by omega), wu8 (by omega) (by omega)]; rfl
theorem bl_size (l : List Int) : (bl l).size = l.length := by simp [bl, bsa]
theorem c_laws_markText (k : Int) (h : k ≤ 1099511627776) : F n_laws_markText [.val (.i k)] (.s (markT k)) [[]] := by
  refine i_laws_markText ?_
  conv => whnf
  refine g 0 0 [] ?_
  conv => whnf
  refine ⟨⟨I, I⟩, ?_⟩
  refine W.sq ?_
  refine g 4 5 [] ?_
  conv => whnf
  refine ⟨⟨I, I, I⟩, ?_⟩
  refine W.cn ?_
  conv => whnf
  refine ⟨fun h1 => ?_, fun h1 => ?_⟩
  replace h1 := dt h1
  refine g 5 6 [] ?_
  conv => whnf
  refine ⟨⟨I, I⟩, ?_⟩
  refine W.ret ?_
  refine EndsW.rt ?_
  conv => whnf
  refine ⟨⟨I, I, I⟩, ?_, rfl⟩
  rotate_left 1
  replace h1 := df h1
  refine W.skip ?_
  refine g 5 6 [] ?_
  conv => whnf
  refine ⟨⟨I, I⟩, ?_⟩
  refine W.sq ?_
  refine W.blk ?_
  rotate_left 1
  · exact vs (by unfold markT; rw [if_pos (by omega)]; rfl)
  refine W.lp (fun s (x : Nat × Int × ByteArray) => match x with | (f, a, t) => ⟨[(0, .i a), (2, s.s 2), (3, .s t)], [], []⟩) (fun (x : Nat × Int × ByteArray) => match x with | (f, a, t) => 0 ≤ a ∧ a ≤ 1099511627776 ∧ a < 10 ^ f ∧ f ≤ 20 ∧ (t.size : Int) ≤ 20 - f ∧ dgs f a t = dgs 20 k emp) (fun (x : Nat × Int × ByteArray) => match x with | (f, a, t) => f) ((20, k, emp)) [] [] ⟨rfl, ⟨rfl, rfl, rfl, I⟩, I, I⟩ ?_ ?_
  · exact ⟨by omega, by omega, by omega, by omega, by show ((0 : Nat) : Int) ≤ 20 - ((20 : Nat) : Int); omega, rfl⟩
  rintro ⟨f, a, t⟩ ⟨g1, ga, g2, g3, g4, g5⟩
  conv => whnf
  refine W.sq ?_
  refine g 6 7 [] ?_
  conv => whnf
  refine ⟨⟨I, I, I⟩, ?_⟩
  refine W.cn ?_
  conv => whnf
  refine ⟨fun h2 => ?_, fun h2 => ?_⟩
  replace h2 := dt h2
  refine W.skip ?_
  refine W.blk ?_
  refine g 10 16 [.i (Int.tmod a (10 : Int)), .i (IntKind.wrap IntKind.i64 ((48 : Int) + Int.tmod a (10 : Int))), .i (IntKind.wrap IntKind.u8 (IntKind.wrap IntKind.i64 ((48 : Int) + Int.tmod a (10 : Int)))), .s ({ data := List.toArray (bytesOf [[T.v (Value.int IntKind.u8 (IntKind.wrap IntKind.u8 (IntKind.wrap IntKind.i64 ((48 : Int) + Int.tmod a (10 : Int)))))]]) : ByteArray }), .s ({ data := List.toArray (bytesOf [[T.v (Value.int IntKind.u8 (IntKind.wrap IntKind.u8 (IntKind.wrap IntKind.i64 ((48 : Int) + Int.tmod a (10 : Int)))))]]) : ByteArray } ++ t)] ?_
  conv => whnf
  refine ⟨⟨I, ⟨(by omega), rfl⟩, rfl, rfl, ⟨⟨I, I⟩, I⟩, ⟨I, (by repeat (first | exact allU8_nil | refine allU8_cons ?_)), rfl⟩, I, ⟨rfl, (by simp only [bsz, ByteArray.size_append, List.length_map, List.length_append, List.length_set, List.length_replicate, List.length_cons, List.length_nil, List.length_take, List.length_drop, fill_len, fillI_len, List.length_range, bytesT_len]; omega)⟩, I, I⟩, ?_⟩
  refine rg [.i (IntKind.wrap IntKind.i64 (Int.tdiv a (10 : Int)))] ?_
  conv => whnf
  refine ⟨⟨I, ⟨(by omega), rfl⟩, I, I⟩, ?_⟩
  rotate_left 1
  replace h2 := df h2
  refine W.exit ?_
  refine g 3 20 [.s ({ data := #[(109 : UInt8)] : ByteArray } ++ t)] ?_
  conv => whnf
  refine ⟨⟨I, ⟨rfl, (by simp only [bsz, bsa, ByteArray.size_append, List.size_toArray, List.length_map, List.length_append, List.length_set, List.length_replicate, List.length_cons, List.length_nil, List.length_take, List.length_drop, fill_len, fillI_len, List.length_range, bytesT_len]; omega)⟩, I, I⟩, ?_⟩
  refine W.ret ?_
  refine EndsW.rt ?_
  conv => whnf
  refine ⟨⟨I, I, I⟩, ?_, rfl⟩
  rotate_left 1
  · obtain ⟨g, rfl, g6, g7⟩ := dgs_step (t := t) h2 g2
    refine ⟨(g, a / 10, bl [48 + a % 10] ++ t), [], [], ⟨rfl, ⟨(congrArg (fun z => V.t (T.v (Value.int _ z))) (mt_div g1 ga)), rfl, (congrArg (fun z => V.t (T.v (Value.string z))) (mt_dig g1)), I⟩, I, I⟩, ?_, ?_⟩
    rotate_left 1
    (dsimp only; omega)
    dsimp only
    have e := bl_size [48 + a % 10]
    exact ⟨by omega, by omega, g6, by omega, by rw [ByteArray.size_append, e, List.length_cons, List.length_nil]; omega, by rw [← g7]; exact g5⟩
  · exact vs (by unfold markT; rw [if_neg h1, ← g5, dgs_end h2]; rfl)
end Go.K

end

section
set_option linter.unusedVariables false
set_option linter.unusedSimpArgs false
set_option maxHeartbeats 4000000
set_option maxRecDepth 20000
open Go Go.Tm Go.Proofs
namespace Go.K
abbrev intT (n : Int) : List T := [.i n]
structure Task where
  name : ByteArray
  cost : Int
  deps : List Int
  deriving DecidableEq
abbrev taskT (x : Task) : List T := [.s x.name, .i x.cost, .slc [false] (x.deps.map intT)]
abbrev taskR (x : Task) : V := .agg [.t (.s x.name), .t (.i x.cost), .t (.slc [false] (x.deps.map intT))]
abbrev taskO (x : Task) : V := .agg [.t (.s x.name), .t (.i x.cost), .own [false] (x.deps.map intT)]
abbrev taskK : List Bool := [false, false, true]
abbrev noTask : Task := ⟨emp, 0, []⟩
def taskSz (x : Task) : Int := (x.name.size : Int) + ((x.deps.length : Int))
theorem taskSz_nn (x : Task) : 0 ≤ taskSz x := by
  simp only [taskSz]; omega
def taskWf (x : Task) : Prop := x.name.size ≤ 9223372036854775807 ∧ x.deps.length ≤ 9223372036854775807
structure Worker where
  number : Int
  epoch : Int
  up : Bool
  state : Int
  lease : Int
  task : Int
  cost : Int
  left : Int
  inputs : List ByteArray
  text : ByteArray
  since : Int
  deriving DecidableEq
abbrev workerT (x : Worker) : List T := [.i x.number, .i x.epoch, .b x.up, .i x.state, .i x.lease, .i x.task, .i x.cost, .i x.left, .slc [false] (x.inputs.map strT), .s x.text, .i x.since]
abbrev workerR (x : Worker) : V := .agg [.t (.i x.number), .t (.i x.epoch), .t (.b x.up), .t (.i x.state), .t (.i x.lease), .t (.i x.task), .t (.i x.cost), .t (.i x.left), .t (.slc [false] (x.inputs.map strT)), .t (.s x.text), .t (.i x.since)]
abbrev workerO (x : Worker) : V := .agg [.t (.i x.number), .t (.i x.epoch), .t (.b x.up), .t (.i x.state), .t (.i x.lease), .t (.i x.task), .t (.i x.cost), .t (.i x.left), .own [false] (x.inputs.map strT), .t (.s x.text), .t (.i x.since)]
def workerSz (x : Worker) : Int := ((x.inputs.length : Int) + totS x.inputs) + (x.text.size : Int)
def workerWf (x : Worker) : Prop := x.inputs.length ≤ 9223372036854775807 ∧ (∀ s ∈ x.inputs, s.size ≤ 9223372036854775807) ∧ x.text.size ≤ 9223372036854775807
structure Plan where
  tasks : List Task
  deriving DecidableEq
abbrev planT (x : Plan) : List T := [.slc taskK (x.tasks.map taskT)]
abbrev planR (x : Plan) : V := .agg [.t (.slc taskK (x.tasks.map taskT))]
abbrev planO (x : Plan) : V := .agg [.own taskK (x.tasks.map taskT)]
def planSz (x : Plan) : Int := ((x.tasks.length : Int) + sumI taskSz x.tasks)
theorem planSz_nn (x : Plan) : 0 ≤ planSz x := by
  have hn0 := sum_nn taskSz_nn x.tasks
  simp only [planSz]; omega
def planWf (x : Plan) : Prop := x.tasks.length ≤ 9223372036854775807 ∧ (∀ y ∈ x.tasks, taskWf y)
theorem c_laws_szIntS (xs : List Int) (left : Int) (hl : xs.length ≤ 9223372036854775807) (h : left ≤ 1048576) (h0 : 0 ≤ left) : F n_laws_szIntS [.val (.t (.slc [false] (xs.map intT))), .val (.i left)] (.i (if left - xs.length < 0 then -1 else left - xs.length)) [[], []] := by
  refine i_laws_szIntS ?_
  conv => whnf
  refine g 0 0 [] ?_
  conv => whnf
  refine ⟨⟨I, I⟩, ?_⟩
  refine g 5 9 [.i (left - (↑(List.length (List.map intT xs)) : Int))] ?_
  conv => whnf
  refine ⟨⟨I, I, I, w64 (by simp only [List.length_map, List.length_append, List.length_set, List.length_replicate, List.length_cons, List.length_nil, List.length_take, List.length_drop, fill_len, fillI_len, List.length_range, bytesT_len]; omega) (by simp only [List.length_map, List.length_append, List.length_set, List.length_replicate, List.length_cons, List.length_nil, List.length_take, List.length_drop, fill_len, fillI_len, List.length_range, bytesT_len]; omega), I, I⟩, ?_⟩
  refine W.sq ?_
  refine g 0 1 [] ?_
  conv => whnf
  refine ⟨⟨I, I, I⟩, ?_⟩
  refine W.cn ?_
  conv => whnf
  refine ⟨fun h1 => ?_, fun h1 => ?_⟩
  replace h1 := dt h1
  simp only [List.length_map] at h1
  refine g 9 11 [] ?_
  conv => whnf
  refine ⟨⟨I, I⟩, ?_⟩
  refine W.ret ?_
  refine EndsW.rt ?_
  conv => whnf
  refine ⟨⟨I, I, I⟩, ?_, rfl⟩
  exact vi (by omega)
  replace h1 := df h1
  simp only [List.length_map] at h1
  refine W.skip ?_
  refine g 9 12 [] ?_
  conv => whnf
  refine ⟨⟨I, I, I⟩, ?_⟩
  refine W.ret ?_
  refine EndsW.rt ?_
  conv => whnf
  refine ⟨⟨I, I, I⟩, ?_, rfl⟩
  (simp [*]; done)
theorem c_laws_toIntS (xs : List Int) (h : (xs.length : Int) ≤ 1048576) : F n_laws_toIntS [.val (.t (.slc [false] (xs.map intT)))] (.own [false] (xs.map intT)) [[]] := by
  refine i_laws_toIntS ?_
  conv => whnf
  refine g 0 0 [] ?_
  conv => whnf
  refine ⟨⟨I, I⟩, ?_⟩
  refine g 5 8 [.n (List.length (List.map intT xs))] ?_
  conv => whnf
  refine ⟨⟨I, I, ⟨rfl, rfl, (by simp only [List.length_map, List.length_append, List.length_set, List.length_replicate, List.length_cons, List.length_nil, List.length_take, List.length_drop, fill_len, fillI_len, List.length_range, bytesT_len]; omega)⟩, I, I⟩, ?_⟩
  refine W.sq ?_
  refine g 0 0 [] ?_
  conv => whnf
  refine ⟨⟨I, I⟩, ?_⟩
  refine W.blk ?_
  refine W.lp (fun s (n : Nat) => ⟨[(0, s.s 0), (2, s.s 2), (3, s.s 3), (4, .i n)], [(7, [.own [false] (fill intT (intT 0) xs n)])], []⟩) (fun (n : Nat) => n ≤ xs.length) (fun (n : Nat) => xs.length - n) (0) [some 7] [] ⟨rfl, ⟨rfl, rfl, rfl, rfl, I⟩, ⟨⟨rfl, ⟨(congrArg (V.own _) (fill_zero' (by simp) rfl)), I⟩⟩, I⟩, I⟩ (by omega) ?_
  intro n hn
  conv => whnf
  refine W.sq ?_
  refine g 8 11 [] ?_
  conv => whnf
  refine ⟨⟨I, I, I, I, I⟩, ?_⟩
  refine W.cn ?_
  conv => whnf
  refine ⟨fun h1 => ?_, fun h1 => ?_⟩
  replace h1 := dt h1
  simp only [List.length_map] at h1
  refine W.skip ?_
  refine W.sq ?_
  refine W.blk ?_
  obtain ⟨y1, hy1⟩ := some_at (xs := xs) (n := n) (by omega)
  refine rg [.x (intT y1), .n (n), .x (intT (0 : Int))] ?_
  conv => whnf
  refine ⟨⟨I, I, I, I, ⟨(by omega), ixl (by assumption)⟩, I, ⟨rfl, (by simp only [List.length_map, List.length_append, List.length_set, List.length_replicate, List.length_cons, List.length_nil, List.length_take, List.length_drop, fill_len, fillI_len, List.length_range, bytesT_len]; omega)⟩, ⟨⟨I, I⟩, fill_get (by omega)⟩, I⟩, ?_⟩
  refine rg [.i ((↑n : Int) + (1 : Int))] ?_
  conv => whnf
  refine ⟨⟨I, w64 (by omega) (by omega), I, I⟩, ?_⟩
  rotate_left 1
  replace h1 := df h1
  simp only [List.length_map] at h1
  refine W.exit ?_
  refine g 3 22 [] ?_
  conv => whnf
  refine ⟨⟨I, I, I⟩, ?_⟩
  refine W.ret ?_
  refine EndsW.rt ?_
  conv => whnf
  refine ⟨⟨I, I, I⟩, ?_, rfl⟩
  rotate_left 1
  · refine ⟨n + 1, [some 7], [], ⟨rfl, ⟨rfl, rfl, rfl, rfl, I⟩, ⟨⟨rfl, ⟨(congrArg (V.own _) (fill_set (by assumption))), I⟩⟩, I⟩, I⟩, ?_, ?_⟩
    rotate_left 1
    (dsimp only; omega)
    dsimp only
    omega
  · have e : fill intT (intT 0) xs n = xs.map intT := fill_all _ _ _ (by omega)
    rw [← e]
theorem c_laws_eqIntS (xs ys : List Int) (hl : xs.length ≤ 9223372036854775806) : F n_laws_eqIntS [.val (.t (.slc [false] (xs.map intT))), .val (.t (.slc [false] (ys.map intT)))] (.b (decide (xs = ys))) [[], []] := by
  refine i_laws_eqIntS ?_
  conv => whnf
  refine g 0 0 [] ?_
  conv => whnf
  refine ⟨⟨I, I⟩, ?_⟩
  refine W.sq ?_
  refine g 6 10 [] ?_
  conv => whnf
  refine ⟨⟨I, I, I, I, I, I⟩, ?_⟩
  refine W.cn ?_
  conv => whnf
  refine ⟨fun h1 => ?_, fun h1 => ?_⟩
  replace h1 := ndt h1
  simp only [List.length_map] at h1
  refine g 10 11 [] ?_
  conv => whnf
  refine ⟨⟨I, I⟩, ?_⟩
  refine W.ret ?_
  refine EndsW.rt ?_
  conv => whnf
  refine ⟨⟨I, I, I⟩, ?_, rfl⟩
  rotate_left 1
  replace h1 := ndf h1
  simp only [List.length_map] at h1
  refine W.skip ?_
  refine W.sq ?_
  refine g 10 11 [] ?_
  conv => whnf
  refine ⟨⟨I, I⟩, ?_⟩
  refine W.blk ?_
  rotate_left 1
  · exact vbf (fun e => h1 (by rw [e]))
  refine W.lp (fun s (n : Nat) => ⟨[(0, s.s 0), (1, s.s 1), (5, .i n)], [], []⟩) (fun (n : Nat) => n ≤ xs.length ∧ xs.take n = ys.take n) (fun (n : Nat) => xs.length - n) (0) [] [] ⟨rfl, ⟨rfl, rfl, rfl, I⟩, I, I⟩ (by simp) ?_
  rintro n ⟨hn, hc⟩
  conv => whnf
  refine W.sq ?_
  refine g 11 14 [] ?_
  conv => whnf
  refine ⟨⟨I, I, I, I, I⟩, ?_⟩
  refine W.cn ?_
  conv => whnf
  refine ⟨fun h2 => ?_, fun h2 => ?_⟩
  replace h2 := dt h2
  simp only [List.length_map] at h2
  refine W.skip ?_
  refine W.sq ?_
  refine W.blk ?_
  obtain ⟨y1, hy1⟩ := some_at (xs := xs) (n := n) (by omega)
  obtain ⟨y2, hy2⟩ := some_at (xs := ys) (n := n) (by omega)
  refine gd 14 25 [[], [], [.x (intT y1)], [], [], [], [.x (intT y2)], [], []] ?_
  conv => whnf
  refine ⟨⟨I, I, ⟨(by omega), ixl (by assumption)⟩, I, I, I, ⟨(by omega), ixl (by assumption)⟩, I, I, I⟩, by kernel_rfl, ?_⟩
  refine W.cn ?_
  conv => whnf
  refine ⟨fun h3 => ?_, fun h3 => ?_⟩
  replace h3 := ndt h3
  refine g 25 26 [] ?_
  conv => whnf
  refine ⟨⟨I, I⟩, ?_⟩
  refine W.ret ?_
  refine EndsW.rt ?_
  conv => whnf
  refine ⟨⟨I, I, I⟩, ?_, rfl⟩
  rotate_left 1
  replace h3 := ndf h3
  refine W.skip ?_
  refine rg [.i ((↑n : Int) + (1 : Int))] ?_
  conv => whnf
  refine ⟨⟨I, w64 (by omega) (by omega), I, I⟩, ?_⟩
  rotate_left 1
  replace h2 := df h2
  simp only [List.length_map] at h2
  refine W.exit ?_
  refine g 0 2 [] ?_
  conv => whnf
  refine ⟨⟨I, I⟩, ?_⟩
  refine W.ret ?_
  refine EndsW.rt ?_
  conv => whnf
  refine ⟨⟨I, I, I⟩, ?_, rfl⟩
  rotate_left 1
  · exact vbf (fun e => by subst e; rw [hy1] at hy2; cases hy2; exact h3 rfl)
  · refine ⟨n + 1, [], [], ⟨rfl, ⟨rfl, rfl, rfl, I⟩, I, I⟩, ?_, ?_⟩
    rotate_left 1
    (dsimp only; omega)
    dsimp only
    exact ⟨by omega, take_eq hc hy1 (by rw [hy2]; exact congrArg some (Eq.symm h3))⟩
  · exact vbt (by rw [take_all (by omega), take_all (by omega)] at hc; exact hc)
theorem c_laws_szTask (x : Task) (left : Int) (hw : taskWf x) (h : left ≤ 1048576) (h0 : 0 ≤ left) : F n_laws_szTask [.val (taskR x), .val (.i left)] (.i (if left - taskSz x < 0 then -1 else left - taskSz x)) [[], []] := by
  obtain ⟨hw0, hw1⟩ := hw
  have hz : taskSz x = (x.name.size : Int) + ((x.deps.length : Int)) := rfl
  refine i_laws_szTask ?_
  conv => whnf
  refine g 0 1 [] ?_
  conv => whnf
  refine ⟨⟨⟨I, I, I, I⟩, I, I⟩, ?_⟩
  refine g 5 10 [.i (left - (↑(ByteArray.size (Task.name x)) : Int))] ?_
  conv => whnf
  refine ⟨⟨I, I, I, I, w64 (by omega) (by omega), I, I⟩, ?_⟩
  refine W.sq ?_
  refine g 10 11 [] ?_
  conv => whnf
  refine ⟨⟨I, I, I⟩, ?_⟩
  refine W.cn ?_
  conv => whnf
  refine ⟨fun h1 => ?_, fun h1 => ?_⟩
  replace h1 := dt h1
  refine g 11 12 [] ?_
  conv => whnf
  refine ⟨⟨I, I⟩, ?_⟩
  refine W.ret ?_
  refine EndsW.rt ?_
  conv => whnf
  refine ⟨⟨I, I, I⟩, ?_, rfl⟩
  exact vi (by omega)
  replace h1 := df h1
  refine W.skip ?_
  refine g 11 16 [.call (V.i (if left - (↑(ByteArray.size (Task.name x)) : Int) - (↑(List.length (Task.deps x)) : Int) < (0 : Int) then (-1 : Int) else left - (↑(ByteArray.size (Task.name x)) : Int) - (↑(List.length (Task.deps x)) : Int))) ([[], []])] ?_
  conv => whnf
  refine ⟨⟨I, I, I, ⟨⟨I, I, I⟩, I, ⟨⟨I, I⟩, ⟨I, I⟩, I⟩, ⟨I, I⟩, Go.K.c_laws_szIntS _ _ (by omega) (by omega) (by omega)⟩, I, I⟩, ?_⟩
  refine W.sq ?_
  refine g 2 3 [] ?_
  conv => whnf
  refine ⟨⟨I, I, I⟩, ?_⟩
  refine W.cn ?_
  conv => whnf
  refine ⟨fun h2 => ?_, fun h2 => ?_⟩
  replace h2 := dt h2
  refine g 16 18 [] ?_
  conv => whnf
  refine ⟨⟨I, I⟩, ?_⟩
  refine W.ret ?_
  refine EndsW.rt ?_
  conv => whnf
  refine ⟨⟨I, I, I⟩, ?_, rfl⟩
  exact vi (by omega)
  replace h2 := df h2
  refine W.skip ?_
  refine g 16 19 [] ?_
  conv => whnf
  refine ⟨⟨I, I, I⟩, ?_⟩
  refine W.ret ?_
  refine EndsW.rt ?_
  conv => whnf
  refine ⟨⟨I, I, I⟩, ?_, rfl⟩
  exact vi (by omega)
theorem c_laws_toTask (x : Task) (h : taskSz x ≤ 1048576) : F n_laws_toTask [.val (taskR x)] (taskO x) [[]] := by
  have hz : taskSz x = (x.name.size : Int) + ((x.deps.length : Int)) := rfl
  refine i_laws_toTask ?_
  conv => whnf
  refine g 0 1 [] ?_
  conv => whnf
  refine ⟨⟨⟨I, I, I, I⟩, I, I⟩, ?_⟩
  refine g 0 0 [] ?_
  conv => whnf
  refine ⟨⟨I, I⟩, ?_⟩
  refine g 4 7 [] ?_
  conv => whnf
  refine ⟨⟨I, I, I, ⟨I, I⟩, I⟩, ?_⟩
  refine g 7 10 [] ?_
  conv => whnf
  refine ⟨⟨I, I, I, ⟨I, I⟩, I⟩, ?_⟩
  refine g 10 14 [.call (V.own [false] (List.map intT (Task.deps x))) ([[]])] ?_
  conv => whnf
  refine ⟨⟨I, I, ⟨⟨I, I⟩, I, ⟨⟨I, I⟩, I⟩, ⟨I, I⟩, Go.K.c_laws_toIntS _ (by omega)⟩, I, ⟨I, I⟩, I⟩, ?_⟩
  refine g 3 15 [] ?_
  conv => whnf
  refine ⟨⟨I, ⟨I, I, I, I⟩, I⟩, ?_⟩
  refine W.ret ?_
  refine EndsW.rt ?_
  conv => whnf
  refine ⟨⟨I, I, I, I, I⟩, ?_, rfl⟩
  rfl
def taskLen (a : Task) : Prop := a.deps.length ≤ 9223372036854775806
theorem taskLen_of {a : Task} (h : taskSz a ≤ 1048576) : taskLen a := by
  simp only [taskSz] at h
  simp only [taskLen]
  exact by omega
theorem c_laws_eqTask (a b : Task) (hl : taskLen a) : F n_laws_eqTask [.val (taskR a), .val (taskR b)] (.b (decide (a = b))) [[], []] := by
  obtain ⟨a_name, a_cost, a_deps⟩ := a
  obtain ⟨b_name, b_cost, b_deps⟩ := b
  simp only [taskLen] at hl
  refine i_laws_eqTask ?_
  conv => whnf
  refine g 0 2 [] ?_
  conv => whnf
  refine ⟨⟨⟨I, I, I, I⟩, ⟨I, I, I, I⟩, I, I⟩, ?_⟩
  refine W.sq ?_
  refine g 5 9 [] ?_
  conv => whnf
  refine ⟨⟨I, I, I, I, I, I⟩, ?_⟩
  refine W.cn ?_
  conv => whnf
  refine ⟨fun h1 => ?_, fun h1 => ?_⟩
  replace h1 := ndt h1
  refine g 9 10 [] ?_
  conv => whnf
  refine ⟨⟨I, I⟩, ?_⟩
  refine W.ret ?_
  refine EndsW.rt ?_
  conv => whnf
  refine ⟨⟨I, I, I⟩, ?_, rfl⟩
  rotate_left 1
  replace h1 := ndf h1
  refine W.skip ?_
  refine W.sq ?_
  refine g 9 14 [] ?_
  conv => whnf
  refine ⟨⟨I, I, I, I, I, I⟩, ?_⟩
  refine W.cn ?_
  conv => whnf
  refine ⟨fun h2 => ?_, fun h2 => ?_⟩
  replace h2 := ndt h2
  refine g 14 15 [] ?_
  conv => whnf
  refine ⟨⟨I, I⟩, ?_⟩
  refine W.ret ?_
  refine EndsW.rt ?_
  conv => whnf
  refine ⟨⟨I, I, I⟩, ?_, rfl⟩
  rotate_left 1
  replace h2 := ndf h2
  refine W.skip ?_
  refine W.sq ?_
  refine g 14 20 [.call (V.b (decide (a_deps = b_deps))) ([[], []])] ?_
  conv => whnf
  refine ⟨⟨I, I, I, I, ⟨⟨I, I, I⟩, I, ⟨⟨I, I⟩, ⟨I, I⟩, I⟩, ⟨I, I⟩, Go.K.c_laws_eqIntS _ _ (by omega)⟩, I, I⟩, ?_⟩
  refine W.cn ?_
  conv => whnf
  refine ⟨fun h3 => ?_, fun h3 => ?_⟩
  replace h3 := ndt h3
  refine g 2 4 [] ?_
  conv => whnf
  refine ⟨⟨I, I⟩, ?_⟩
  refine W.ret ?_
  refine EndsW.rt ?_
  conv => whnf
  refine ⟨⟨I, I, I⟩, ?_, rfl⟩
  rotate_left 1
  replace h3 := ndf h3
  refine W.skip ?_
  refine g 2 4 [] ?_
  conv => whnf
  refine ⟨⟨I, I⟩, ?_⟩
  refine W.ret ?_
  refine EndsW.rt ?_
  conv => whnf
  refine ⟨⟨I, I, I⟩, ?_, rfl⟩
  rotate_left 1
  all_goals (first | exact vbt (by simp_all; done) | exact vbf (by simp_all; done))
theorem c_laws_szTaskS (xs : List Task) (left : Int) (hl : xs.length ≤ 9223372036854775807) (hs : ∀ y ∈ xs, taskWf y) (h : left ≤ 1048576) (h0 : 0 ≤ left) : F n_laws_szTaskS [.val (.t (.slc taskK (xs.map taskT))), .val (.i left)] (.i (if left - (xs.length + sumI taskSz xs) < 0 then -1 else left - (xs.length + sumI taskSz xs))) [[], []] := by
  have hnn := sum_nn taskSz_nn xs
  refine i_laws_szTaskS ?_
  conv => whnf
  refine g 0 0 [] ?_
  conv => whnf
  refine ⟨⟨I, I⟩, ?_⟩
  refine g 6 10 [.i (left - (↑(List.length (List.map taskT xs)) : Int))] ?_
  conv => whnf
  refine ⟨⟨I, I, I, w64 (by simp only [List.length_map, List.length_append, List.length_set, List.length_replicate, List.length_cons, List.length_nil, List.length_take, List.length_drop, fill_len, fillI_len, List.length_range, bytesT_len]; omega) (by simp only [List.length_map, List.length_append, List.length_set, List.length_replicate, List.length_cons, List.length_nil, List.length_take, List.length_drop, fill_len, fillI_len, List.length_range, bytesT_len]; omega), I, I⟩, ?_⟩
  refine W.sq ?_
  refine g 10 11 [] ?_
  conv => whnf
  refine ⟨⟨I, I, I⟩, ?_⟩
  refine W.cn ?_
  conv => whnf
  refine ⟨fun h1 => ?_, fun h1 => ?_⟩
  replace h1 := dt h1
  simp only [List.length_map] at h1
  refine g 11 12 [] ?_
  conv => whnf
  refine ⟨⟨I, I⟩, ?_⟩
  refine W.ret ?_
  refine EndsW.rt ?_
  conv => whnf
  refine ⟨⟨I, I, I⟩, ?_, rfl⟩
  exact vi (by omega)
  replace h1 := df h1
  simp only [List.length_map] at h1
  refine W.skip ?_
  refine W.sq ?_
  refine g 11 12 [] ?_
  conv => whnf
  refine ⟨⟨I, I⟩, ?_⟩
  refine W.blk ?_
  refine W.lp (fun s (n : Nat) => ⟨[(0, s.s 0), (1, .i (left - xs.length - sumI taskSz (xs.take n))), (5, .i n)], [], []⟩) (fun (n : Nat) => n ≤ xs.length ∧ 0 ≤ left - xs.length - sumI taskSz (xs.take n)) (fun (n : Nat) => xs.length - n) (0) [] [] ⟨rfl, ⟨rfl, (congrArg (fun z => V.t (T.v (Value.int _ z))) (by simp [sumI])), rfl, I⟩, I, I⟩ ?_ ?_
  · simp [sumI]; omega
  rintro n ⟨hn, hc⟩
  have hq := sum_nn taskSz_nn (xs.take n)
  have hle := sum_le taskSz_nn xs (n + 1)
  conv => whnf
  refine W.sq ?_
  refine g 12 15 [] ?_
  conv => whnf
  refine ⟨⟨I, I, I, I, I⟩, ?_⟩
  refine W.cn ?_
  conv => whnf
  refine ⟨fun h2 => ?_, fun h2 => ?_⟩
  replace h2 := dt h2
  simp only [List.length_map] at h2
  refine W.skip ?_
  refine W.sq ?_
  refine W.blk ?_
  obtain ⟨y1, hy1⟩ := some_at (xs := xs) (n := n) (by omega)
  have hm1 := hs y1 (List.mem_of_getElem? hy1)
  have hk1 := sum_take (f := taskSz) hy1
  have hk2 := taskSz_nn y1
  refine g 15 24 [.x (taskT y1), .call (V.i (if left - (↑(List.length xs) : Int) - sumI taskSz (List.take n xs) - taskSz y1 < (0 : Int) then (-1 : Int) else left - (↑(List.length xs) : Int) - sumI taskSz (List.take n xs) - taskSz y1)) ([[], []])] ?_
  conv => whnf
  refine ⟨⟨I, I, ⟨(by omega), ixl (by assumption)⟩, I, I, ⟨⟨I, I, I⟩, I, ⟨⟨I, I, I, I⟩, ⟨I, I⟩, I⟩, ⟨I, I⟩, Go.K.c_laws_szTask _ _ (by omega) (by omega) (by omega)⟩, I, I⟩, ?_⟩
  refine g 24 25 [] ?_
  conv => whnf
  refine ⟨⟨I, I, I⟩, ?_⟩
  refine W.cn ?_
  conv => whnf
  refine ⟨fun h3 => ?_, fun h3 => ?_⟩
  replace h3 := dt h3
  refine g 25 26 [] ?_
  conv => whnf
  refine ⟨⟨I, I⟩, ?_⟩
  refine W.ret ?_
  refine EndsW.rt ?_
  conv => whnf
  refine ⟨⟨I, I, I⟩, ?_, rfl⟩
  exact vi (by omega)
  replace h3 := df h3
  refine W.skip ?_
  refine rg [.i ((↑n : Int) + (1 : Int))] ?_
  conv => whnf
  refine ⟨⟨I, w64 (by omega) (by omega), I, I⟩, ?_⟩
  rotate_left 1
  replace h2 := df h2
  simp only [List.length_map] at h2
  refine W.exit ?_
  refine g 5 27 [] ?_
  conv => whnf
  refine ⟨⟨I, I, I⟩, ?_⟩
  refine W.ret ?_
  refine EndsW.rt ?_
  conv => whnf
  refine ⟨⟨I, I, I⟩, ?_, rfl⟩
  rotate_left 1
  · refine ⟨n + 1, [], [], ⟨rfl, ⟨rfl, (congrArg (fun z => V.t (T.v (Value.int _ z))) (by rw [sum_take (by assumption)]; omega)), rfl, I⟩, I, I⟩, ?_, ?_⟩
    rotate_left 1
    (dsimp only; omega)
    dsimp only
    omega
  · have e : xs.take n = xs := take_all (by omega)
    rw [e] at hc ⊢
    exact vi (by split <;> omega)
theorem c_laws_toTaskS (xs : List Task) (h : (xs.length : Int) + sumI taskSz xs ≤ 1048576) : F n_laws_toTaskS [.val (.t (.slc taskK (xs.map taskT)))] (.own taskK (xs.map taskT)) [[]] := by
  have hnn := sum_nn taskSz_nn xs
  refine i_laws_toTaskS ?_
  conv => whnf
  refine g 0 0 [] ?_
  conv => whnf
  refine ⟨⟨I, I⟩, ?_⟩
  refine g 5 8 [.n (List.length (List.map taskT xs))] ?_
  conv => whnf
  refine ⟨⟨I, I, ⟨rfl, rfl, (by simp only [List.length_map, List.length_append, List.length_set, List.length_replicate, List.length_cons, List.length_nil, List.length_take, List.length_drop, fill_len, fillI_len, List.length_range, bytesT_len]; omega)⟩, I, I⟩, ?_⟩
  refine W.sq ?_
  refine g 0 0 [] ?_
  conv => whnf
  refine ⟨⟨I, I⟩, ?_⟩
  refine W.blk ?_
  refine W.lp (fun s (n : Nat) => ⟨[(0, s.s 0), (2, s.s 2), (3, s.s 3), (4, .i n)], [(7, [.own taskK (fill taskT (taskT noTask) xs n)])], []⟩) (fun (n : Nat) => n ≤ xs.length) (fun (n : Nat) => xs.length - n) (0) [some 7] [] ⟨rfl, ⟨rfl, rfl, rfl, rfl, I⟩, ⟨⟨rfl, ⟨(congrArg (V.own _) (fill_zero' (by simp) rfl)), I⟩⟩, I⟩, I⟩ (by omega) ?_
  intro n hn
  conv => whnf
  refine W.sq ?_
  refine g 8 11 [] ?_
  conv => whnf
  refine ⟨⟨I, I, I, I, I⟩, ?_⟩
  refine W.cn ?_
  conv => whnf
  refine ⟨fun h1 => ?_, fun h1 => ?_⟩
  replace h1 := dt h1
  simp only [List.length_map] at h1
  refine W.skip ?_
  refine W.sq ?_
  refine W.blk ?_
  obtain ⟨y1, hy1⟩ := some_at (xs := xs) (n := n) (by omega)
  have hk1 := sum_mem taskSz_nn (List.mem_of_getElem? hy1)
  refine rg [.x (taskT y1), .call (taskO y1) ([[]]), .n (n), .x (taskT noTask)] ?_
  conv => whnf
  refine ⟨⟨I, I, I, I, ⟨(by omega), ixl (by assumption)⟩, I, ⟨⟨I, I⟩, I, ⟨⟨I, I, I, I⟩, I⟩, ⟨I, I⟩, Go.K.c_laws_toTask _ (by omega)⟩, ⟨rfl, (by simp only [List.length_map, List.length_append, List.length_set, List.length_replicate, List.length_cons, List.length_nil, List.length_take, List.length_drop, fill_len, fillI_len, List.length_range, bytesT_len]; omega)⟩, ⟨⟨I, I, I, I⟩, fill_get (by omega)⟩, I⟩, ?_⟩
  refine rg [.i ((↑n : Int) + (1 : Int))] ?_
  conv => whnf
  refine ⟨⟨I, w64 (by omega) (by omega), I, I⟩, ?_⟩
  rotate_left 1
  replace h1 := df h1
  simp only [List.length_map] at h1
  refine W.exit ?_
  refine g 3 23 [] ?_
  conv => whnf
  refine ⟨⟨I, I, I⟩, ?_⟩
  refine W.ret ?_
  refine EndsW.rt ?_
  conv => whnf
  refine ⟨⟨I, I, I⟩, ?_, rfl⟩
  rotate_left 1
  · refine ⟨n + 1, [some 7], [], ⟨rfl, ⟨rfl, rfl, rfl, rfl, I⟩, ⟨⟨rfl, ⟨(congrArg (V.own _) (fill_set (by assumption))), I⟩⟩, I⟩, I⟩, ?_, ?_⟩
    rotate_left 1
    (dsimp only; omega)
    dsimp only
    omega
  · have e : fill taskT (taskT noTask) xs n = xs.map taskT := fill_all _ _ _ (by omega)
    rw [← e]
theorem c_laws_eqTaskS (xs ys : List Task) (hl : xs.length ≤ 9223372036854775806) (hs : ∀ y ∈ xs, taskLen y) : F n_laws_eqTaskS [.val (.t (.slc taskK (xs.map taskT))), .val (.t (.slc taskK (ys.map taskT)))] (.b (decide (xs = ys))) [[], []] := by
  refine i_laws_eqTaskS ?_
  conv => whnf
  refine g 0 0 [] ?_
  conv => whnf
  refine ⟨⟨I, I⟩, ?_⟩
  refine W.sq ?_
  refine g 6 10 [] ?_
  conv => whnf
  refine ⟨⟨I, I, I, I, I, I⟩, ?_⟩
  refine W.cn ?_
  conv => whnf
  refine ⟨fun h1 => ?_, fun h1 => ?_⟩
  replace h1 := ndt h1
  simp only [List.length_map] at h1
  refine g 10 11 [] ?_
  conv => whnf
  refine ⟨⟨I, I⟩, ?_⟩
  refine W.ret ?_
  refine EndsW.rt ?_
  conv => whnf
  refine ⟨⟨I, I, I⟩, ?_, rfl⟩
  rotate_left 1
  replace h1 := ndf h1
  simp only [List.length_map] at h1
  refine W.skip ?_
  refine W.sq ?_
  refine g 10 11 [] ?_
  conv => whnf
  refine ⟨⟨I, I⟩, ?_⟩
  refine W.blk ?_
  rotate_left 1
  · exact vbf (fun e => h1 (by rw [e]))
  refine W.lp (fun s (n : Nat) => ⟨[(0, s.s 0), (1, s.s 1), (5, .i n)], [], []⟩) (fun (n : Nat) => n ≤ xs.length ∧ xs.take n = ys.take n) (fun (n : Nat) => xs.length - n) (0) [] [] ⟨rfl, ⟨rfl, rfl, rfl, I⟩, I, I⟩ (by simp) ?_
  rintro n ⟨hn, hc⟩
  conv => whnf
  refine W.sq ?_
  refine g 11 14 [] ?_
  conv => whnf
  refine ⟨⟨I, I, I, I, I⟩, ?_⟩
  refine W.cn ?_
  conv => whnf
  refine ⟨fun h2 => ?_, fun h2 => ?_⟩
  replace h2 := dt h2
  simp only [List.length_map] at h2
  refine W.skip ?_
  refine W.sq ?_
  refine W.blk ?_
  obtain ⟨y1, hy1⟩ := some_at (xs := xs) (n := n) (by omega)
  have hm1 := hs y1 (List.mem_of_getElem? hy1)
  obtain ⟨y2, hy2⟩ := some_at (xs := ys) (n := n) (by omega)
  refine gd 14 26 [[], [], [.x (taskT y1)], [], [], [], [.x (taskT y2)], [], [.call (V.b (decide (y1 = y2))) ([[], []])], []] ?_
  conv => whnf
  refine ⟨⟨I, I, ⟨(by omega), ixl (by assumption)⟩, I, I, I, ⟨(by omega), ixl (by assumption)⟩, I, ⟨⟨I, I, I⟩, I, ⟨⟨I, I, I, I⟩, ⟨I, I, I, I⟩, I⟩, ⟨I, I⟩, Go.K.c_laws_eqTask _ _ (by omega)⟩, I, I⟩, by kernel_rfl, ?_⟩
  refine W.cn ?_
  conv => whnf
  refine ⟨fun h3 => ?_, fun h3 => ?_⟩
  replace h3 := ndt h3
  refine g 26 27 [] ?_
  conv => whnf
  refine ⟨⟨I, I⟩, ?_⟩
  refine W.ret ?_
  refine EndsW.rt ?_
  conv => whnf
  refine ⟨⟨I, I, I⟩, ?_, rfl⟩
  rotate_left 1
  replace h3 := ndf h3
  refine W.skip ?_
  refine rg [.i ((↑n : Int) + (1 : Int))] ?_
  conv => whnf
  refine ⟨⟨I, w64 (by omega) (by omega), I, I⟩, ?_⟩
  rotate_left 1
  replace h2 := df h2
  simp only [List.length_map] at h2
  refine W.exit ?_
  refine g 0 2 [] ?_
  conv => whnf
  refine ⟨⟨I, I⟩, ?_⟩
  refine W.ret ?_
  refine EndsW.rt ?_
  conv => whnf
  refine ⟨⟨I, I, I⟩, ?_, rfl⟩
  rotate_left 1
  · exact vbf (fun e => by subst e; rw [hy1] at hy2; cases hy2; exact h3 rfl)
  · refine ⟨n + 1, [], [], ⟨rfl, ⟨rfl, rfl, rfl, I⟩, I, I⟩, ?_, ?_⟩
    rotate_left 1
    (dsimp only; omega)
    dsimp only
    exact ⟨by omega, take_eq hc hy1 (by rw [hy2]; exact congrArg some (Eq.symm h3))⟩
  · exact vbt (by rw [take_all (by omega), take_all (by omega)] at hc; exact hc)
theorem c_laws_szPlan (x : Plan) (left : Int) (hw : planWf x) (h : left ≤ 1048576) (h0 : 0 ≤ left) : F n_laws_szPlan [.val (planR x), .val (.i left)] (.i (if left - planSz x < 0 then -1 else left - planSz x)) [[], []] := by
  have hn0 := sum_nn taskSz_nn x.tasks
  obtain ⟨hw0, hw1⟩ := hw
  have hz : planSz x = ((x.tasks.length : Int) + sumI taskSz x.tasks) := rfl
  refine i_laws_szPlan ?_
  conv => whnf
  refine g 0 1 [] ?_
  conv => whnf
  refine ⟨⟨⟨I, I⟩, I, I⟩, ?_⟩
  refine g 5 9 [.call (V.i (if left - ((↑(List.length (Plan.tasks x)) : Int) + sumI taskSz (Plan.tasks x)) < (0 : Int) then (-1 : Int) else left - ((↑(List.length (Plan.tasks x)) : Int) + sumI taskSz (Plan.tasks x)))) ([[], []])] ?_
  conv => whnf
  refine ⟨⟨I, I, I, ⟨⟨I, I, I⟩, I, ⟨⟨I, I⟩, ⟨I, I⟩, I⟩, ⟨I, I⟩, Go.K.c_laws_szTaskS _ _ (by omega) (by omega) (by omega) (by omega)⟩, I, I⟩, ?_⟩
  refine W.sq ?_
  refine g 2 3 [] ?_
  conv => whnf
  refine ⟨⟨I, I, I⟩, ?_⟩
  refine W.cn ?_
  conv => whnf
  refine ⟨fun h1 => ?_, fun h1 => ?_⟩
  replace h1 := dt h1
  refine g 9 11 [] ?_
  conv => whnf
  refine ⟨⟨I, I⟩, ?_⟩
  refine W.ret ?_
  refine EndsW.rt ?_
  conv => whnf
  refine ⟨⟨I, I, I⟩, ?_, rfl⟩
  exact vi (by omega)
  replace h1 := df h1
  refine W.skip ?_
  refine g 9 12 [] ?_
  conv => whnf
  refine ⟨⟨I, I, I⟩, ?_⟩
  refine W.ret ?_
  refine EndsW.rt ?_
  conv => whnf
  refine ⟨⟨I, I, I⟩, ?_, rfl⟩
  rfl
theorem c_laws_toPlan (x : Plan) (h : planSz x ≤ 1048576) : F n_laws_toPlan [.val (planR x)] (planO x) [[]] := by
  have hn0 := sum_nn taskSz_nn x.tasks
  have hz : planSz x = ((x.tasks.length : Int) + sumI taskSz x.tasks) := rfl
  refine i_laws_toPlan ?_
  conv => whnf
  refine g 0 1 [] ?_
  conv => whnf
  refine ⟨⟨⟨I, I⟩, I, I⟩, ?_⟩
  refine g 0 0 [] ?_
  conv => whnf
  refine ⟨⟨I, I⟩, ?_⟩
  refine g 4 8 [.call (V.own taskK (List.map taskT (Plan.tasks x))) ([[]])] ?_
  conv => whnf
  refine ⟨⟨I, I, ⟨⟨I, I⟩, I, ⟨⟨I, I⟩, I⟩, ⟨I, I⟩, Go.K.c_laws_toTaskS _ (by omega)⟩, I, ⟨I, I⟩, I⟩, ?_⟩
  refine g 3 9 [] ?_
  conv => whnf
  refine ⟨⟨I, ⟨I, I⟩, I⟩, ?_⟩
  refine W.ret ?_
  refine EndsW.rt ?_
  conv => whnf
  refine ⟨⟨I, I, I⟩, ?_, rfl⟩
  rfl
def planLen (a : Plan) : Prop := a.tasks.length ≤ 9223372036854775806 ∧ (∀ y ∈ a.tasks, taskLen y)
theorem planLen_of {a : Plan} (h : planSz a ≤ 1048576) : planLen a := by
  have := sum_nn taskSz_nn a.tasks
  simp only [planSz] at h
  simp only [planLen]
  exact ⟨by omega, fun y hy => taskLen_of (by have := sum_mem taskSz_nn hy; omega)⟩
theorem c_laws_eqPlan (a b : Plan) (hl : planLen a) : F n_laws_eqPlan [.val (planR a), .val (planR b)] (.b (decide (a = b))) [[], []] := by
  obtain ⟨a_tasks⟩ := a
  obtain ⟨b_tasks⟩ := b
  simp only [planLen] at hl
  obtain ⟨hl0, hl1⟩ := hl
  refine i_laws_eqPlan ?_
  conv => whnf
  refine g 0 2 [] ?_
  conv => whnf
  refine ⟨⟨⟨I, I⟩, ⟨I, I⟩, I, I⟩, ?_⟩
  refine W.sq ?_
  refine g 5 10 [.call (V.b (decide (a_tasks = b_tasks))) ([[], []])] ?_
  conv => whnf
  refine ⟨⟨I, I, I, I, ⟨⟨I, I, I⟩, I, ⟨⟨I, I⟩, ⟨I, I⟩, I⟩, ⟨I, I⟩, Go.K.c_laws_eqTaskS _ _ (by omega) (by omega)⟩, I, I⟩, ?_⟩
  refine W.cn ?_
  conv => whnf
  refine ⟨fun h1 => ?_, fun h1 => ?_⟩
  replace h1 := ndt h1
  refine g 2 4 [] ?_
  conv => whnf
  refine ⟨⟨I, I⟩, ?_⟩
  refine W.ret ?_
  refine EndsW.rt ?_
  conv => whnf
  refine ⟨⟨I, I, I⟩, ?_, rfl⟩
  rotate_left 1
  replace h1 := ndf h1
  refine W.skip ?_
  refine g 2 4 [] ?_
  conv => whnf
  refine ⟨⟨I, I⟩, ?_⟩
  refine W.ret ?_
  refine EndsW.rt ?_
  conv => whnf
  refine ⟨⟨I, I, I⟩, ?_, rfl⟩
  rotate_left 1
  all_goals (first | exact vbt (by simp_all; done) | exact vbf (by simp_all; done))
end Go.K

end

section
set_option linter.unusedVariables false
set_option linter.unusedSimpArgs false
set_option maxHeartbeats 4000000
set_option maxRecDepth 20000
open Go Go.Tm Go.Proofs
namespace Go.K
theorem c_laws_szWorker (x : Worker) (left : Int) (hw : workerWf x) (h : left ≤ 1048576) (h0 : 0 ≤ left) : F n_laws_szWorker [.val (workerR x), .val (.i left)] (.i (if left - workerSz x < 0 then -1 else left - workerSz x)) [[], []] := by
  have hn0 := totS_nn x.inputs
  obtain ⟨hw0, hw1, hw2⟩ := hw
  have hz : workerSz x = ((x.inputs.length : Int) + totS x.inputs) + (x.text.size : Int) := rfl
  refine i_laws_szWorker ?_
  conv => whnf
  refine g 0 1 [] ?_
  conv => whnf
  refine ⟨⟨⟨I, I, I, I, I, I, I, I, I, I, I, I⟩, I, I⟩, ?_⟩
  refine g 5 9 [.call (V.i (if left - (↑(List.length (Worker.inputs x)) : Int) - totS (Worker.inputs x) < (0 : Int) then (-1 : Int) else left - (↑(List.length (Worker.inputs x)) : Int) - totS (Worker.inputs x))) ([[], []])] ?_
  conv => whnf
  refine ⟨⟨I, I, I, ⟨⟨I, I, I⟩, I, ⟨⟨I, I⟩, ⟨I, I⟩, I⟩, ⟨I, I⟩, Go.K.c_laws_szStringS _ _ (by omega) (by omega) (by omega) (by omega)⟩, I, I⟩, ?_⟩
  refine W.sq ?_
  refine g 9 10 [] ?_
  conv => whnf
  refine ⟨⟨I, I, I⟩, ?_⟩
  refine W.cn ?_
  conv => whnf
  refine ⟨fun h1 => ?_, fun h1 => ?_⟩
  replace h1 := dt h1
  refine g 10 11 [] ?_
  conv => whnf
  refine ⟨⟨I, I⟩, ?_⟩
  refine W.ret ?_
  refine EndsW.rt ?_
  conv => whnf
  refine ⟨⟨I, I, I⟩, ?_, rfl⟩
  exact vi (by omega)
  replace h1 := df h1
  refine W.skip ?_
  refine g 10 16 [.i ((if left - (↑(List.length (Worker.inputs x)) : Int) - totS (Worker.inputs x) < (0 : Int) then (-1 : Int) else left - (↑(List.length (Worker.inputs x)) : Int) - totS (Worker.inputs x)) - (↑(ByteArray.size (Worker.text x)) : Int))] ?_
  conv => whnf
  refine ⟨⟨I, I, I, I, w64 (by omega) (by omega), I, I⟩, ?_⟩
  refine W.sq ?_
  refine g 2 3 [] ?_
  conv => whnf
  refine ⟨⟨I, I, I⟩, ?_⟩
  refine W.cn ?_
  conv => whnf
  refine ⟨fun h2 => ?_, fun h2 => ?_⟩
  replace h2 := dt h2
  refine g 16 18 [] ?_
  conv => whnf
  refine ⟨⟨I, I⟩, ?_⟩
  refine W.ret ?_
  refine EndsW.rt ?_
  conv => whnf
  refine ⟨⟨I, I, I⟩, ?_, rfl⟩
  exact vi (by omega)
  replace h2 := df h2
  refine W.skip ?_
  refine g 16 19 [] ?_
  conv => whnf
  refine ⟨⟨I, I, I⟩, ?_⟩
  refine W.ret ?_
  refine EndsW.rt ?_
  conv => whnf
  refine ⟨⟨I, I, I⟩, ?_, rfl⟩
  exact vi (by omega)
theorem c_laws_toWorker (x : Worker) (h : workerSz x ≤ 1048576) : F n_laws_toWorker [.val (workerR x)] (workerO x) [[]] := by
  have hn0 := totS_nn x.inputs
  have hz : workerSz x = ((x.inputs.length : Int) + totS x.inputs) + (x.text.size : Int) := rfl
  refine i_laws_toWorker ?_
  conv => whnf
  refine g 0 1 [] ?_
  conv => whnf
  refine ⟨⟨⟨I, I, I, I, I, I, I, I, I, I, I, I⟩, I, I⟩, ?_⟩
  refine g 0 0 [] ?_
  conv => whnf
  refine ⟨⟨I, I⟩, ?_⟩
  refine g 4 7 [] ?_
  conv => whnf
  refine ⟨⟨I, I, I, ⟨I, I⟩, I⟩, ?_⟩
  refine g 7 10 [] ?_
  conv => whnf
  refine ⟨⟨I, I, I, ⟨I, I⟩, I⟩, ?_⟩
  refine g 10 13 [] ?_
  conv => whnf
  refine ⟨⟨I, I, I, ⟨I, I⟩, I⟩, ?_⟩
  refine g 13 16 [] ?_
  conv => whnf
  refine ⟨⟨I, I, I, ⟨I, I⟩, I⟩, ?_⟩
  refine g 16 19 [] ?_
  conv => whnf
  refine ⟨⟨I, I, I, ⟨I, I⟩, I⟩, ?_⟩
  refine g 19 22 [] ?_
  conv => whnf
  refine ⟨⟨I, I, I, ⟨I, I⟩, I⟩, ?_⟩
  refine g 22 25 [] ?_
  conv => whnf
  refine ⟨⟨I, I, I, ⟨I, I⟩, I⟩, ?_⟩
  refine g 25 28 [] ?_
  conv => whnf
  refine ⟨⟨I, I, I, ⟨I, I⟩, I⟩, ?_⟩
  refine g 28 32 [.call (V.own [false] (List.map strT (Worker.inputs x))) ([[]])] ?_
  conv => whnf
  refine ⟨⟨I, I, ⟨⟨I, I⟩, I, ⟨⟨I, I⟩, I⟩, ⟨I, I⟩, Go.K.c_laws_toStringS _ (by omega)⟩, I, ⟨I, I⟩, I⟩, ?_⟩
  refine g 32 35 [] ?_
  conv => whnf
  refine ⟨⟨I, I, I, ⟨I, I⟩, I⟩, ?_⟩
  refine g 35 38 [] ?_
  conv => whnf
  refine ⟨⟨I, I, I, ⟨I, I⟩, I⟩, ?_⟩
  refine g 3 39 [] ?_
  conv => whnf
  refine ⟨⟨I, ⟨I, I, I, I, I, I, I, I, I, I, I, I⟩, I⟩, ?_⟩
  refine W.ret ?_
  refine EndsW.rt ?_
  conv => whnf
  refine ⟨⟨I, I, I, I, I, I, I, I, I, I, I, I, I⟩, ?_, rfl⟩
  rfl
def workerLen (a : Worker) : Prop := a.inputs.length ≤ 9223372036854775806
theorem workerLen_of {a : Worker} (h : workerSz a ≤ 1048576) : workerLen a := by
  have := totS_nn a.inputs
  simp only [workerSz] at h
  simp only [workerLen]
  exact by omega
theorem c_laws_eqWorker (a b : Worker) (hl : workerLen a) : F n_laws_eqWorker [.val (workerR a), .val (workerR b)] (.b (decide (a = b))) [[], []] := by
  obtain ⟨a_number, a_epoch, a_up, a_state, a_lease, a_task, a_cost, a_left, a_inputs, a_text, a_since⟩ := a
  obtain ⟨b_number, b_epoch, b_up, b_state, b_lease, b_task, b_cost, b_left, b_inputs, b_text, b_since⟩ := b
  simp only [workerLen] at hl
  refine i_laws_eqWorker ?_
  conv => whnf
  refine g 0 2 [] ?_
  conv => whnf
  refine ⟨⟨⟨I, I, I, I, I, I, I, I, I, I, I, I⟩, ⟨I, I, I, I, I, I, I, I, I, I, I, I⟩, I, I⟩, ?_⟩
  refine W.sq ?_
  refine g 5 9 [] ?_
  conv => whnf
  refine ⟨⟨I, I, I, I, I, I⟩, ?_⟩
  refine W.cn ?_
  conv => whnf
  refine ⟨fun h1 => ?_, fun h1 => ?_⟩
  replace h1 := ndt h1
  refine g 9 10 [] ?_
  conv => whnf
  refine ⟨⟨I, I⟩, ?_⟩
  refine W.ret ?_
  refine EndsW.rt ?_
  conv => whnf
  refine ⟨⟨I, I, I⟩, ?_, rfl⟩
  rotate_left 1
  replace h1 := ndf h1
  refine W.skip ?_
  refine W.sq ?_
  refine g 9 14 [] ?_
  conv => whnf
  refine ⟨⟨I, I, I, I, I, I⟩, ?_⟩
  refine W.cn ?_
  conv => whnf
  refine ⟨fun h2 => ?_, fun h2 => ?_⟩
  replace h2 := ndt h2
  refine g 14 15 [] ?_
  conv => whnf
  refine ⟨⟨I, I⟩, ?_⟩
  refine W.ret ?_
  refine EndsW.rt ?_
  conv => whnf
  refine ⟨⟨I, I, I⟩, ?_, rfl⟩
  rotate_left 1
  replace h2 := ndf h2
  refine W.skip ?_
  refine W.sq ?_
  refine g 14 19 [] ?_
  conv => whnf
  refine ⟨⟨I, I, I, I, I, I⟩, ?_⟩
  refine W.cn ?_
  conv => whnf
  refine ⟨fun h3 => ?_, fun h3 => ?_⟩
  replace h3 := nbt h3
  refine g 19 20 [] ?_
  conv => whnf
  refine ⟨⟨I, I⟩, ?_⟩
  refine W.ret ?_
  refine EndsW.rt ?_
  conv => whnf
  refine ⟨⟨I, I, I⟩, ?_, rfl⟩
  rotate_left 1
  replace h3 := nbf h3
  refine W.skip ?_
  refine W.sq ?_
  refine g 19 24 [] ?_
  conv => whnf
  refine ⟨⟨I, I, I, I, I, I⟩, ?_⟩
  refine W.cn ?_
  conv => whnf
  refine ⟨fun h4 => ?_, fun h4 => ?_⟩
  replace h4 := ndt h4
  refine g 24 25 [] ?_
  conv => whnf
  refine ⟨⟨I, I⟩, ?_⟩
  refine W.ret ?_
  refine EndsW.rt ?_
  conv => whnf
  refine ⟨⟨I, I, I⟩, ?_, rfl⟩
  rotate_left 1
  replace h4 := ndf h4
  refine W.skip ?_
  refine W.sq ?_
  refine g 24 29 [] ?_
  conv => whnf
  refine ⟨⟨I, I, I, I, I, I⟩, ?_⟩
  refine W.cn ?_
  conv => whnf
  refine ⟨fun h5 => ?_, fun h5 => ?_⟩
  replace h5 := ndt h5
  refine g 29 30 [] ?_
  conv => whnf
  refine ⟨⟨I, I⟩, ?_⟩
  refine W.ret ?_
  refine EndsW.rt ?_
  conv => whnf
  refine ⟨⟨I, I, I⟩, ?_, rfl⟩
  rotate_left 1
  replace h5 := ndf h5
  refine W.skip ?_
  refine W.sq ?_
  refine g 29 34 [] ?_
  conv => whnf
  refine ⟨⟨I, I, I, I, I, I⟩, ?_⟩
  refine W.cn ?_
  conv => whnf
  refine ⟨fun h6 => ?_, fun h6 => ?_⟩
  replace h6 := ndt h6
  refine g 34 35 [] ?_
  conv => whnf
  refine ⟨⟨I, I⟩, ?_⟩
  refine W.ret ?_
  refine EndsW.rt ?_
  conv => whnf
  refine ⟨⟨I, I, I⟩, ?_, rfl⟩
  rotate_left 1
  replace h6 := ndf h6
  refine W.skip ?_
  refine W.sq ?_
  refine g 34 39 [] ?_
  conv => whnf
  refine ⟨⟨I, I, I, I, I, I⟩, ?_⟩
  refine W.cn ?_
  conv => whnf
  refine ⟨fun h7 => ?_, fun h7 => ?_⟩
  replace h7 := ndt h7
  refine g 39 40 [] ?_
  conv => whnf
  refine ⟨⟨I, I⟩, ?_⟩
  refine W.ret ?_
  refine EndsW.rt ?_
  conv => whnf
  refine ⟨⟨I, I, I⟩, ?_, rfl⟩
  rotate_left 1
  replace h7 := ndf h7
  refine W.skip ?_
  refine W.sq ?_
  refine g 39 44 [] ?_
  conv => whnf
  refine ⟨⟨I, I, I, I, I, I⟩, ?_⟩
  refine W.cn ?_
  conv => whnf
  refine ⟨fun h8 => ?_, fun h8 => ?_⟩
  replace h8 := ndt h8
  refine g 44 45 [] ?_
  conv => whnf
  refine ⟨⟨I, I⟩, ?_⟩
  refine W.ret ?_
  refine EndsW.rt ?_
  conv => whnf
  refine ⟨⟨I, I, I⟩, ?_, rfl⟩
  rotate_left 1
  replace h8 := ndf h8
  refine W.skip ?_
  refine W.sq ?_
  refine g 44 50 [.call (V.b (decide (a_inputs = b_inputs))) ([[], []])] ?_
  conv => whnf
  refine ⟨⟨I, I, I, I, ⟨⟨I, I, I⟩, I, ⟨⟨I, I⟩, ⟨I, I⟩, I⟩, ⟨I, I⟩, Go.K.c_laws_eqStringS _ _ (by omega)⟩, I, I⟩, ?_⟩
  refine W.cn ?_
  conv => whnf
  refine ⟨fun h9 => ?_, fun h9 => ?_⟩
  replace h9 := ndt h9
  refine g 50 51 [] ?_
  conv => whnf
  refine ⟨⟨I, I⟩, ?_⟩
  refine W.ret ?_
  refine EndsW.rt ?_
  conv => whnf
  refine ⟨⟨I, I, I⟩, ?_, rfl⟩
  rotate_left 1
  replace h9 := ndf h9
  refine W.skip ?_
  refine W.sq ?_
  refine g 50 55 [] ?_
  conv => whnf
  refine ⟨⟨I, I, I, I, I, I⟩, ?_⟩
  refine W.cn ?_
  conv => whnf
  refine ⟨fun h10 => ?_, fun h10 => ?_⟩
  replace h10 := ndt h10
  refine g 55 56 [] ?_
  conv => whnf
  refine ⟨⟨I, I⟩, ?_⟩
  refine W.ret ?_
  refine EndsW.rt ?_
  conv => whnf
  refine ⟨⟨I, I, I⟩, ?_, rfl⟩
  rotate_left 1
  replace h10 := ndf h10
  refine W.skip ?_
  refine W.sq ?_
  refine g 55 60 [] ?_
  conv => whnf
  refine ⟨⟨I, I, I, I, I, I⟩, ?_⟩
  refine W.cn ?_
  conv => whnf
  refine ⟨fun h11 => ?_, fun h11 => ?_⟩
  replace h11 := ndt h11
  refine g 2 4 [] ?_
  conv => whnf
  refine ⟨⟨I, I⟩, ?_⟩
  refine W.ret ?_
  refine EndsW.rt ?_
  conv => whnf
  refine ⟨⟨I, I, I⟩, ?_, rfl⟩
  rotate_left 1
  replace h11 := ndf h11
  refine W.skip ?_
  refine g 2 4 [] ?_
  conv => whnf
  refine ⟨⟨I, I⟩, ?_⟩
  refine W.ret ?_
  refine EndsW.rt ?_
  conv => whnf
  refine ⟨⟨I, I, I⟩, ?_, rfl⟩
  rotate_left 1
  all_goals (first | exact vbt (by simp_all; done) | exact vbf (by simp_all; done))
theorem c_laws_markStringS (xs : List ByteArray) (k : Int) (hl : xs.length ≤ 9223372036854775806) (h0 : 0 ≤ k) (hk : k + xs.length ≤ 1099511627776) : F n_laws_markStringS [.bor (.own [false] (xs.map strT)), .val (.i k)] (.i (k + xs.length)) [[.own [false] ((mkL (fun k _ => markT k) (fun _ => 1) k xs).map strT)], []] := by
  refine i_laws_markStringS ?_
  conv => whnf
  refine g 0 0 [] ?_
  conv => whnf
  refine ⟨⟨I, I⟩, ?_⟩
  refine W.sq ?_
  refine g 0 0 [] ?_
  conv => whnf
  refine ⟨⟨I, I⟩, ?_⟩
  refine W.blk ?_
  refine W.lp (fun s (n : Nat) => ⟨[(0, s.s 0), (1, .i (k + n)), (4, s.s 4), (5, .i n)], [(20, [.own [false] ((mkN (fun k _ => markT k) (fun _ => 1) k xs n).map strT)])], []⟩) (fun (n : Nat) => n ≤ xs.length) (fun (n : Nat) => xs.length - n) (0) [some 20] [] ⟨rfl, ⟨rfl, (congrArg (fun z => V.t (T.v (Value.int _ z))) (by simp [sumI])), rfl, rfl, I⟩, ⟨⟨rfl, ⟨rfl, I⟩⟩, I⟩, I⟩ (by omega) ?_
  intro n hn
  have hx := mkN_len (fun k _ => markT k) (fun _ => 1) k xs n
  have hs1 : ∀ x, xs[n]? = some x → ((mkN (fun k _ => markT k) (fun _ => 1) k xs n).map strT).set n (strT (markT (k + n))) = (mkN (fun k _ => markT k) (fun _ => 1) k xs (n + 1)).map strT := fun x hx => by
    have := mkN_setm (f := (fun k _ => markT k)) (c := (fun _ => 1)) (g := strT) (k := k) hx
    rw [sum_one, List.length_take, Nat.min_eq_left hn] at this; exact this
  conv => whnf
  refine W.sq ?_
  refine g 6 9 [] ?_
  conv => whnf
  refine ⟨⟨I, I, I, I, I⟩, ?_⟩
  refine W.cn ?_
  conv => whnf
  refine ⟨fun h1 => ?_, fun h1 => ?_⟩
  replace h1 := dt h1
  simp only [List.length_map] at h1
  refine W.skip ?_
  refine W.sq ?_
  refine W.blk ?_
  obtain ⟨y1, hy1⟩ := some_at (xs := xs) (n := n) (by omega)
  refine g 9 17 [.call (V.s (markT (k + (↑n : Int)))) ([[]]), .n (n), .x (strT y1)] ?_
  conv => whnf
  refine ⟨⟨I, I, I, ⟨⟨I, I⟩, I, ⟨⟨I, I⟩, I⟩, ⟨I, I⟩, Go.K.c_laws_markText _ (by omega)⟩, ⟨rfl, (by simp only [List.length_map, List.length_append, List.length_set, List.length_replicate, List.length_cons, List.length_nil, List.length_take, List.length_drop, fill_len, fillI_len, List.length_range, bytesT_len]; omega)⟩, ⟨⟨I, I⟩, mkN_getm (by assumption)⟩, I⟩, ?_⟩
  refine rg [.i (k + (↑n : Int) + (1 : Int))] ?_
  conv => whnf
  refine ⟨⟨I, w64 (by omega) (by omega), I, I⟩, ?_⟩
  refine rg [.i ((↑n : Int) + (1 : Int))] ?_
  conv => whnf
  refine ⟨⟨I, w64 (by omega) (by omega), I, I⟩, ?_⟩
  rotate_left 1
  replace h1 := df h1
  simp only [List.length_map] at h1
  refine W.exit ?_
  refine g 5 20 [] ?_
  conv => whnf
  refine ⟨⟨I, I, I⟩, ?_⟩
  refine W.ret ?_
  refine EndsW.rt ?_
  conv => whnf
  refine ⟨⟨I, I, I⟩, ?_, ?_⟩
  exact vi (by omega)
  rotate_left 1
  · refine ⟨n + 1, [some 20], [], ⟨rfl, ⟨rfl, (congrArg (fun z => V.t (T.v (Value.int _ z))) (by omega)), rfl, rfl, I⟩, ⟨⟨rfl, ⟨(congrArg (V.own _) (hs1 _ (by assumption))), I⟩⟩, I⟩, I⟩, ?_, ?_⟩
    rotate_left 1
    (dsimp only; omega)
    dsimp only
    omega
  · have e := mkN_all (fun k _ => markT k) (fun _ => 1) k xs (n := n) (by omega)
    rw [show n = xs.length by omega] at e ⊢
    rw [e]
theorem c_laws_heldStringS (xs : List ByteArray) (k : Int) (hl : xs.length ≤ 9223372036854775806) (h0 : 0 ≤ k) (hk : k + xs.length ≤ 1099511627776) : F n_laws_heldStringS [.val (.t (.slc [false] ((mkL (fun k _ => markT k) (fun _ => 1) k xs).map strT))), .val (.i k)] (.i (k + xs.length)) [[], []] := by
  have hx := mkL_len (fun k _ => markT k) (fun _ => 1) k xs
  refine i_laws_heldStringS ?_
  conv => whnf
  refine g 0 0 [] ?_
  conv => whnf
  refine ⟨⟨I, I⟩, ?_⟩
  refine W.sq ?_
  refine g 0 0 [] ?_
  conv => whnf
  refine ⟨⟨I, I⟩, ?_⟩
  refine W.blk ?_
  refine W.lp (fun s (n : Nat) => ⟨[(0, s.s 0), (1, .i (k + n)), (5, .i n)], [], []⟩) (fun (n : Nat) => n ≤ xs.length) (fun (n : Nat) => xs.length - n) (0) [] [] ⟨rfl, ⟨rfl, (congrArg (fun z => V.t (T.v (Value.int _ z))) (by simp [sumI])), rfl, I⟩, I, I⟩ (by omega) ?_
  intro n hn
  have hs1 : ∀ x, xs[n]? = some x → (mkL (fun k _ => markT k) (fun _ => 1) k xs)[n]? = some (markT (k + n)) := fun x hx => by
    have := mkL_get (f := (fun k _ => markT k)) (c := (fun _ => 1)) (k := k) hx
    rw [sum_one, List.length_take, Nat.min_eq_left hn] at this; exact this
  conv => whnf
  refine W.sq ?_
  refine g 6 9 [] ?_
  conv => whnf
  refine ⟨⟨I, I, I, I, I⟩, ?_⟩
  refine W.cn ?_
  conv => whnf
  refine ⟨fun h1 => ?_, fun h1 => ?_⟩
  replace h1 := dt h1
  simp only [List.length_map] at h1
  refine W.skip ?_
  refine W.sq ?_
  refine W.blk ?_
  refine W.sq ?_
  obtain ⟨y1, hy1⟩ := some_at (xs := xs) (n := n) (by omega)
  have hk1 := hs1 _ hy1
  refine gd 9 18 [[], [], [.x (strT (markT (k + (↑n : Int))))], [], [], [.call (V.s (markT (k + (↑n : Int)))) ([[]])], []] ?_
  conv => whnf
  refine ⟨⟨I, I, ⟨(by omega), ixl (by assumption)⟩, I, I, ⟨⟨I, I⟩, I, ⟨⟨I, I⟩, I⟩, ⟨I, I⟩, Go.K.c_laws_markText _ (by omega)⟩, I, I⟩, by kernel_rfl, ?_⟩
  refine W.cn ?_
  conv => whnf
  refine ⟨noT (notF rfl), fun _ => ?_⟩
  refine W.skip ?_
  refine rg [.i (k + (↑n : Int) + (1 : Int))] ?_
  conv => whnf
  refine ⟨⟨I, w64 (by omega) (by omega), I, I⟩, ?_⟩
  refine rg [.i ((↑n : Int) + (1 : Int))] ?_
  conv => whnf
  refine ⟨⟨I, w64 (by omega) (by omega), I, I⟩, ?_⟩
  rotate_left 1
  replace h1 := df h1
  simp only [List.length_map] at h1
  refine W.exit ?_
  refine g 5 22 [] ?_
  conv => whnf
  refine ⟨⟨I, I, I⟩, ?_⟩
  refine W.ret ?_
  refine EndsW.rt ?_
  conv => whnf
  refine ⟨⟨I, I, I⟩, ?_, rfl⟩
  exact vi (by omega)
  refine ⟨n + 1, [], [], ⟨rfl, ⟨rfl, (congrArg (fun z => V.t (T.v (Value.int _ z))) (by omega)), rfl, I⟩, I, I⟩, ?_, ?_⟩
  rotate_left 1
  (dsimp only; omega)
  dsimp only
  omega
def workerTop (k : Int) (x : Worker) : Worker := ⟨x.number, x.epoch, x.up, x.state, x.lease, x.task, x.cost, x.left, mkL (fun k _ => markT k) (fun _ => 1) (k) x.inputs, x.text, x.since⟩
def workerTopC (x : Worker) : Int := x.inputs.length
theorem workerTopC_nn (x : Worker) : 0 ≤ workerTopC x := by
  simp only [workerTopC]; omega
theorem c_laws_markWorker (x : Worker) (k : Int) (hl : x.inputs.length ≤ 9223372036854775806) (h0 : 0 ≤ k) (hk : k + workerTopC x ≤ 1099511627776) : F n_laws_markWorker [.bor (workerO x), .val (.i k)] (.i (k + workerTopC x)) [cellsOf (workerO (workerTop k x)), []] := by
  have hz : workerTopC x = _ := rfl
  simp only [workerTopC] at hz
  refine i_laws_markWorker ?_
  conv => whnf
  refine g 0 1 [] ?_
  conv => whnf
  refine ⟨⟨⟨I, I, I, I, I, I, I, I, I, I, I⟩, I, I⟩, ?_⟩
  refine g 5 9 [.call (V.i (k + (↑(List.length (Worker.inputs x)) : Int))) ([[V.own [false] (List.map strT (mkL (fun k x => markT k) (fun x => (1 : Int)) k (Worker.inputs x)))], []])] ?_
  conv => whnf
  refine ⟨⟨I, I, I, ⟨⟨⟨I, I⟩, I, I⟩, I, ⟨I, ⟨I, I⟩, I⟩, ⟨I, I⟩, Go.K.c_laws_markStringS _ _ (by assumption) (by assumption) (by assumption)⟩, I, I⟩, ?_⟩
  refine g 1 3 [] ?_
  conv => whnf
  refine ⟨⟨I, I, I⟩, ?_⟩
  refine W.ret ?_
  refine EndsW.rt ?_
  conv => whnf
  refine ⟨⟨I, I, I⟩, ?_, rfl⟩
  rfl
theorem c_laws_heldWorker (x : Worker) (k : Int) (hl : x.inputs.length ≤ 9223372036854775806) (h0 : 0 ≤ k) (hk : k + workerTopC x ≤ 1099511627776) : F n_laws_heldWorker [.val (workerR (workerTop k x)), .val (.i k)] (.i (k + workerTopC x)) [[], []] := by
  have hz : workerTopC x = _ := rfl
  simp only [workerTopC] at hz
  refine i_laws_heldWorker ?_
  conv => whnf
  refine g 0 1 [] ?_
  conv => whnf
  refine ⟨⟨⟨I, I, I, I, I, I, I, I, I, I, I, I⟩, I, I⟩, ?_⟩
  refine g 5 9 [.call (V.i (k + (↑(List.length (Worker.inputs x)) : Int))) ([[], []])] ?_
  conv => whnf
  refine ⟨⟨I, I, I, ⟨⟨I, I, I⟩, I, ⟨⟨I, I⟩, ⟨I, I⟩, I⟩, ⟨I, I⟩, Go.K.c_laws_heldStringS _ _ (by assumption) (by assumption) (by assumption)⟩, I, I⟩, ?_⟩
  refine W.sq ?_
  refine g 2 3 [] ?_
  conv => whnf
  refine ⟨⟨I, I, I⟩, ?_⟩
  refine W.cn ?_
  conv => whnf
  refine ⟨noT (decide_eq_false (by omega)), fun _ => ?_⟩
  refine W.skip ?_
  refine g 9 12 [] ?_
  conv => whnf
  refine ⟨⟨I, I, I⟩, ?_⟩
  refine W.ret ?_
  refine EndsW.rt ?_
  conv => whnf
  refine ⟨⟨I, I, I⟩, ?_, rfl⟩
  rfl
end Go.K

end

section
set_option linter.unusedVariables false
set_option linter.unusedSimpArgs false
set_option maxHeartbeats 4000000
set_option maxRecDepth 20000
open Go Go.Tm Go.Proofs
namespace Go.K
def eights (xs : List ByteArray) : Prop := (∀ s ∈ xs, s.size = 8) ∧ xs.length ≤ 8
instance (xs : List ByteArray) : Decidable (eights xs) := by unfold eights; infer_instance
theorem eights_no {xs : List ByteArray} {n : Nat} {y : ByteArray} (hy : xs[n]? = some y) (h : ¬ (y.size : Int) = 8) : ¬ eights xs := fun e => h (by have := e.1 y (List.mem_of_getElem? hy); omega)
theorem all_take {α : Type} {p : α → Prop} {xs : List α} {n : Nat} {y : α} (h : ∀ s ∈ xs.take n, p s) (hy : xs[n]? = some y) (hp : p y) : ∀ s ∈ xs.take (n + 1), p s := fun s hs => by
  rw [List.take_add_one, hy] at hs
  rcases List.mem_append.1 hs with hs | hs
  · exact h s hs
  · simp at hs; subst hs; exact hp
theorem all_done {α : Type} {p : α → Prop} {xs : List α} {n : Nat} (h : ∀ s ∈ xs.take n, p s) (hn : xs.length ≤ n) : ∀ s ∈ xs, p s := by rwa [take_all hn] at h
theorem c_impl_eights (xs : List ByteArray) (hl : xs.length ≤ 9223372036854775806) : F n_impl_eights [.val (.t (strs xs))] (.b (decide (eights xs))) [[]] := by
  refine i_impl_eights ?_
  conv => whnf
  refine g 0 0 [] ?_
  conv => whnf
  refine ⟨⟨I, I⟩, ?_⟩
  refine W.sq ?_
  refine g 0 0 [] ?_
  conv => whnf
  refine ⟨⟨I, I, I, I⟩, ?_⟩
  refine W.blk ?_
  refine W.lp (fun s (n : Nat) => ⟨[(0, s.s 0), (5, s.s 5), (6, s.s 6), (7, .i n)], [], []⟩) (fun (n : Nat) => n ≤ xs.length ∧ ∀ s ∈ xs.take n, s.size = 8) (fun (n : Nat) => xs.length - n) (0) [] [] ⟨rfl, ⟨rfl, rfl, rfl, rfl, I⟩, I, I⟩ (by simp) ?_
  rintro n ⟨hn, hc⟩
  conv => whnf
  refine g 0 0 [] ?_
  conv => whnf
  refine ⟨⟨I, I⟩, ?_⟩
  refine W.sq ?_
  refine W.cn ?_
  conv => whnf
  refine ⟨fun h1 => ?_, fun h1 => ?_⟩
  replace h1 := dt h1
  simp only [List.length_map] at h1
  refine W.skip ?_
  refine W.sq ?_
  refine W.blk ?_
  obtain ⟨y1, hy1⟩ := some_at (xs := xs) (n := n) (by omega)
  refine g 8 11 [.x (strT y1)] ?_
  conv => whnf
  refine ⟨⟨⟨(by omega), ixl (by assumption)⟩, I, I, I⟩, ?_⟩
  refine g 11 13 [] ?_
  conv => whnf
  refine ⟨⟨I, I, I, I⟩, ?_⟩
  refine W.cn ?_
  conv => whnf
  refine ⟨fun h2 => ?_, fun h2 => ?_⟩
  replace h2 := ndt h2
  refine g 13 14 [] ?_
  conv => whnf
  refine ⟨⟨I, I⟩, ?_⟩
  refine W.ret ?_
  refine EndsW.rt ?_
  conv => whnf
  refine ⟨⟨I, I, I⟩, ?_, rfl⟩
  rotate_left 1
  replace h2 := ndf h2
  refine W.skip ?_
  refine rg [.i ((↑n : Int) + (1 : Int))] ?_
  conv => whnf
  refine ⟨⟨w64 (by omega) (by omega), I, I⟩, ?_⟩
  rotate_left 1
  replace h1 := df h1
  simp only [List.length_map] at h1
  refine W.exit ?_
  refine g 5 18 [] ?_
  conv => whnf
  refine ⟨⟨I, I, I, I, I⟩, ?_⟩
  refine W.ret ?_
  refine EndsW.rt ?_
  conv => whnf
  refine ⟨⟨I, I, I⟩, ?_, rfl⟩
  rotate_left 1
  · exact vbf (eights_no hy1 (by assumption))
  · refine ⟨n + 1, [], [], ⟨rfl, ⟨rfl, rfl, rfl, rfl, I⟩, I, I⟩, ?_, ?_⟩
    rotate_left 1
    (dsimp only; omega)
    dsimp only
    exact ⟨by omega, all_take hc hy1 (by omega)⟩
  · exact vbd ⟨fun e => ⟨all_done hc (by omega), by simp only [List.length_map] at e; omega⟩, fun e => by have := e.2; simp only [List.length_map]; omega⟩
theorem c_spec_l2InputsOk (xs : List ByteArray) (hl : xs.length ≤ 9223372036854775806) : F n_spec_l2InputsOk [.val (.t (strs xs))] (.b (decide (eights xs))) [[]] := by
  refine i_spec_l2InputsOk ?_
  conv => whnf
  refine g 0 0 [] ?_
  conv => whnf
  refine ⟨⟨I, I⟩, ?_⟩
  refine W.sq ?_
  refine g 0 0 [] ?_
  conv => whnf
  refine ⟨⟨I, I⟩, ?_⟩
  refine W.blk ?_
  refine W.lp (fun s (n : Nat) => ⟨[(0, s.s 0), (3, .i n)], [], []⟩) (fun (n : Nat) => n ≤ xs.length ∧ ∀ s ∈ xs.take n, s.size = 8) (fun (n : Nat) => xs.length - n) (0) [] [] ⟨rfl, ⟨rfl, rfl, I⟩, I, I⟩ (by simp) ?_
  rintro n ⟨hn, hc⟩
  conv => whnf
  refine W.sq ?_
  refine g 5 7 [] ?_
  conv => whnf
  refine ⟨⟨I, I, I, I, I⟩, ?_⟩
  refine W.cn ?_
  conv => whnf
  refine ⟨fun h1 => ?_, fun h1 => ?_⟩
  replace h1 := dt h1
  simp only [List.length_map] at h1
  refine W.skip ?_
  refine W.sq ?_
  refine W.blk ?_
  obtain ⟨y1, hy1⟩ := some_at (xs := xs) (n := n) (by omega)
  refine g 7 15 [.x (strT y1)] ?_
  conv => whnf
  refine ⟨⟨I, I, ⟨(by omega), ixl (by assumption)⟩, I, I, I, I⟩, ?_⟩
  refine W.cn ?_
  conv => whnf
  refine ⟨fun h2 => ?_, fun h2 => ?_⟩
  replace h2 := ndt h2
  refine g 15 16 [] ?_
  conv => whnf
  refine ⟨⟨I, I⟩, ?_⟩
  refine W.ret ?_
  refine EndsW.rt ?_
  conv => whnf
  refine ⟨⟨I, I, I⟩, ?_, rfl⟩
  rotate_left 1
  replace h2 := ndf h2
  refine W.skip ?_
  refine rg [.i ((↑n : Int) + (1 : Int))] ?_
  conv => whnf
  refine ⟨⟨I, w64 (by omega) (by omega), I, I⟩, ?_⟩
  rotate_left 1
  replace h1 := df h1
  simp only [List.length_map] at h1
  refine W.exit ?_
  refine g 7 19 [] ?_
  conv => whnf
  refine ⟨⟨I, I, I, I, I⟩, ?_⟩
  refine W.ret ?_
  refine EndsW.rt ?_
  conv => whnf
  refine ⟨⟨I, I, I⟩, ?_, rfl⟩
  rotate_left 1
  · exact vbf (eights_no hy1 (by assumption))
  · refine ⟨n + 1, [], [], ⟨rfl, ⟨rfl, rfl, I⟩, I, I⟩, ?_, ?_⟩
    rotate_left 1
    (dsimp only; omega)
    dsimp only
    exact ⟨by omega, all_take hc hy1 (by omega)⟩
  · exact vbd ⟨fun e => ⟨all_done hc (by omega), by simp only [List.length_map] at e; omega⟩, fun e => by have := e.2; simp only [List.length_map]; omega⟩
theorem c_spec_l2LeaseOk (n : Int) : F n_spec_l2LeaseOk [.val (.i n)] (.b (decide (1 ≤ n ∧ n ≤ 300000000))) [[]] := by
  refine i_spec_l2LeaseOk ?_
  conv => whnf
  refine g 0 0 [] ?_
  conv => whnf
  refine ⟨⟨I, I⟩, ?_⟩
  refine g 0 1 [.call (V.b (decide ((1 : Int) ≤ n ∧ n ≤ (300000000 : Int)))) ([[], [], []])] ?_
  conv => whnf
  refine ⟨⟨I, ⟨⟨I, I, I, I⟩, I, ⟨⟨I, I⟩, ⟨I, I⟩, ⟨I, I⟩, I⟩, ⟨I, I⟩, Go.K.c_spec_l2In _ _ _⟩, I, I⟩, ?_⟩
  refine W.ret ?_
  refine EndsW.rt ?_
  conv => whnf
  refine ⟨⟨I, I, I⟩, ?_, rfl⟩
  rfl
end Go.K

end

section
set_option linter.unusedVariables false
set_option linter.unusedSimpArgs false
set_option maxHeartbeats 4000000
set_option maxRecDepth 20000
open Go Go.Tm Go.Proofs
namespace Go.K
def workHeld (w : Worker) : Prop := (1 ≤ w.lease ∧ w.lease ≤ 300000000) ∧ (0 ≤ w.task ∧ w.task ≤ 39)
def workFreeOk (w : Worker) : Prop := w.state = 0 ∧ w.lease = 0 ∧ w.task = 0 ∧ w.cost = 0 ∧ w.left = 0 ∧ (w.inputs.length : Int) = 0 ∧ w.text = emp
def workBusyOk (w : Worker) : Prop := w.state = 1 ∧ workHeld w ∧ (1 ≤ w.cost ∧ w.cost ≤ 20) ∧ (1 ≤ w.left ∧ w.left ≤ w.cost) ∧ eights w.inputs ∧ w.text = emp
def workToldOk (w : Worker) : Prop := w.state = 2 ∧ workHeld w ∧ w.cost = 0 ∧ w.left = 0 ∧ (w.inputs.length : Int) = 0 ∧ (w.text.size : Int) = 8
def workerOk (w : Worker) : Prop := (1 ≤ w.number ∧ w.number ≤ 8) ∧ (1 ≤ w.epoch ∧ w.epoch ≤ 300) ∧ (0 ≤ w.since ∧ w.since ≤ 1000000) ∧ (w.up = true ∨ (w.state = 0 ∧ w.since = 0)) ∧ (workFreeOk w ∨ workBusyOk w ∨ workToldOk w)
instance (w : Worker) : Decidable (workerOk w) := by unfold workerOk workFreeOk workBusyOk workToldOk workHeld; infer_instance
theorem c_impl_ValidWorker (w : Worker) (hl : w.inputs.length ≤ 9223372036854775806) : F n_impl_ValidWorker [.val (workerR w)] (.b (decide (workerOk w))) [[]] := by
  refine i_impl_ValidWorker ?_
  conv => whnf
  refine g 0 1 [] ?_
  conv => whnf
  refine ⟨⟨⟨I, I, I, I, I, I, I, I, I, I, I, I⟩, I, I⟩, ?_⟩
  refine W.sq ?_
  by_cases h1 : (1 : Int) ≤ Worker.number w ∧ Worker.number w ≤ (8 : Int)
  by_cases h2 : (1 : Int) ≤ Worker.epoch w ∧ Worker.epoch w ≤ (300 : Int)
  refine g 14 17 [.call (V.b (decide ((1 : Int) ≤ Worker.number w ∧ Worker.number w ≤ (8 : Int)))) ([[], [], []]), .b (false), .b (false), .b (false), .call (V.b (decide ((1 : Int) ≤ Worker.epoch w ∧ Worker.epoch w ≤ (300 : Int)))) ([[], [], []]), .b (false), .b (false), .b (false), .b (false), .b (false), .call (V.b (decide ((0 : Int) ≤ Worker.since w ∧ Worker.since w ≤ (1000000 : Int)))) ([[], [], []]), .b (false), .b (false)] ?_
  conv => whnf
  refine ⟨⟨I, I, ⟨⟨I, I, I, I⟩, I, ⟨⟨I, I⟩, ⟨I, I⟩, ⟨I, I⟩, I⟩, ⟨I, I⟩, Go.K.c_impl_within _ _ _⟩, I, I, ⟨notF (by omega), I⟩, ⟨notF (by omega), I⟩, ⟨notF (by omega), ⟨I, I, I, I⟩, I, ⟨⟨I, I⟩, ⟨I, I⟩, ⟨I, I⟩, I⟩, ⟨I, I⟩, Go.K.c_impl_within _ _ _⟩, ⟨notF (by omega), I⟩, notF (by omega), I, ⟨notF (by omega), I⟩, ⟨notF (by omega), I⟩, ⟨notF (by omega), ⟨I, I, I, I⟩, I, ⟨⟨I, I⟩, ⟨I, I⟩, ⟨I, I⟩, I⟩, ⟨I, I⟩, Go.K.c_impl_within _ _ _⟩, ⟨notF (by omega), I⟩, notF (by omega), I⟩, ?_⟩
  refine W.cn ?_
  conv => whnf
  refine ⟨fun h3 => ?_, fun h3 => ?_⟩
  replace h3 := ndt h3
  refine g 9 11 [] ?_
  conv => whnf
  refine ⟨⟨I, I⟩, ?_⟩
  refine W.ret ?_
  refine EndsW.rt ?_
  conv => whnf
  refine ⟨⟨I, I, I⟩, ?_, rfl⟩
  rotate_left 1
  replace h3 := ndf h3
  refine W.skip ?_
  refine W.sq ?_
  by_cases h4 : Worker.up w = true
  refine g 25 32 [.b (false), .b (false), .b (false), .b (false), .b (false), .b (false), .b (false), .b (false), .b (false)] ?_
  conv => whnf
  refine ⟨⟨I, I, I, I, nbF (by assumption), nbF (by assumption), nbF (by assumption), nbF (by assumption), I, I, I, nbF (by assumption), nbF (by assumption), I⟩, ?_⟩
  refine W.cn ?_
  conv => whnf
  refine ⟨noT (rfl), fun _ => ?_⟩
  refine W.skip ?_
  by_cases h5 : (1 : Int) ≤ Worker.lease w ∧ Worker.lease w ≤ (300000000 : Int)
  refine g 32 41 [.call (V.b (decide ((1 : Int) ≤ Worker.lease w ∧ Worker.lease w ≤ (300000000 : Int)))) ([[], [], []]), .b (true), .b (true), .b (true), .call (V.b (decide ((0 : Int) ≤ Worker.task w ∧ Worker.task w ≤ (39 : Int)))) ([[], [], []]), .b (true)] ?_
  conv => whnf
  refine ⟨⟨I, I, ⟨⟨I, I, I, I⟩, I, ⟨⟨I, I⟩, ⟨I, I⟩, ⟨I, I⟩, I⟩, ⟨I, I⟩, Go.K.c_impl_within _ _ _⟩, I, ⟨decide_eq_true (by omega), I⟩, ⟨decide_eq_true (by omega), I⟩, ⟨decide_eq_true (by omega), ⟨I, I, I, I⟩, I, ⟨⟨I, I⟩, ⟨I, I⟩, ⟨I, I⟩, I⟩, ⟨I, I⟩, Go.K.c_impl_within _ _ _⟩, decide_eq_true (by omega), I, I⟩, ?_⟩
  refine W.sq ?_
  refine g 19 24 [] ?_
  conv => whnf
  refine ⟨⟨I, I, I⟩, ?_⟩
  refine W.blk ?_
  refine g 9 11 [] ?_
  conv => whnf
  refine ⟨⟨I, I, I⟩, ?_⟩
  refine W.cn ?_
  conv => whnf
  refine ⟨fun h6 => ?_, fun h6 => ?_⟩
  replace h6 := dt h6
  refine g 5 74 [.b (false), .b (false), .b (false), .b (false), .b (false), .b (false), .b (false), .b (false), .b (false), .b (false), .b (false), .b (false), .b (false), .b (false), .b (false), .b (false), .b (false), .b (false), .b (false), .b (false), .b (false)] ?_
  conv => whnf
  refine ⟨⟨I, I, I, I, decide_eq_false (by omega), decide_eq_false (by omega), decide_eq_false (by omega), decide_eq_false (by omega), I, rfl, rfl, rfl, rfl, I, rfl, rfl, rfl, rfl, I, rfl, rfl, rfl, rfl, rfl, I, rfl, rfl, rfl, rfl, I, I⟩, ?_⟩
  refine W.ret ?_
  refine EndsW.rt ?_
  conv => whnf
  refine ⟨⟨I, I, I⟩, ?_, rfl⟩
  rotate_left 1
  replace h6 := df h6
  refine g 7 9 [] ?_
  conv => whnf
  refine ⟨⟨I, I, I⟩, ?_⟩
  refine W.cn ?_
  conv => whnf
  refine ⟨fun h7 => ?_, fun h7 => ?_⟩
  replace h7 := dt h7
  by_cases h8 : (0 : Int) ≤ Worker.task w ∧ Worker.task w ≤ (39 : Int)
  by_cases h9 : (1 : Int) ≤ Worker.cost w ∧ Worker.cost w ≤ (20 : Int)
  by_cases h10 : (1 : Int) ≤ Worker.left w ∧ Worker.left w ≤ Worker.cost w
  by_cases h11 : eights (Worker.inputs w)
  refine g 5 99 [.b (true), .b (true), .b (true), .call (V.b (decide ((1 : Int) ≤ Worker.cost w ∧ Worker.cost w ≤ (20 : Int)))) ([[], [], []]), .b (true), .b (true), .b (true), .b (true), .b (true), .b (true), .call (V.b (decide ((1 : Int) ≤ Worker.left w ∧ Worker.left w ≤ Worker.cost w))) ([[], [], []]), .b (true), .b (true), .b (true), .b (true), .call (V.b (decide (eights (Worker.inputs w)))) ([[]]), .b (true), .b (true), .b (true), .b (true), .b (true)] ?_
  conv => whnf
  refine ⟨⟨I, I, ⟨decide_eq_true (by omega), I⟩, ⟨decide_eq_true (by omega), I⟩, ⟨decide_eq_true (by omega), ⟨I, I, I, I⟩, I, ⟨⟨I, I⟩, ⟨I, I⟩, ⟨I, I⟩, I⟩, ⟨I, I⟩, Go.K.c_impl_within _ _ _⟩, decide_eq_true (by omega), I, ⟨decide_eq_true (by omega), I⟩, ⟨decide_eq_true (by omega), I⟩, ⟨decide_eq_true (by omega), I⟩, ⟨decide_eq_true (by omega), I⟩, ⟨decide_eq_true (by omega), ⟨I, I, I, I⟩, I, ⟨⟨I, I⟩, ⟨I, I⟩, ⟨I, I⟩, I⟩, ⟨I, I⟩, Go.K.c_impl_within _ _ _⟩, decide_eq_true (by omega), I, ⟨decide_eq_true (by omega), I⟩, ⟨decide_eq_true (by omega), I⟩, ⟨decide_eq_true (by omega), ⟨I, I⟩, I, ⟨⟨I, I⟩, I⟩, ⟨I, I⟩, Go.K.c_impl_eights _ (by omega)⟩, decide_eq_true (by omega), I, ⟨decide_eq_true (by omega), I⟩, ⟨decide_eq_true (by omega), I⟩, ⟨decide_eq_true (by omega), I⟩, decide_eq_true (by omega), I, I⟩, ?_⟩
  refine W.ret ?_
  refine EndsW.rt ?_
  conv => whnf
  refine ⟨⟨I, I, I⟩, ?_, rfl⟩
  rotate_left 1
  refine g 5 99 [.b (true), .b (true), .b (true), .call (V.b (decide ((1 : Int) ≤ Worker.cost w ∧ Worker.cost w ≤ (20 : Int)))) ([[], [], []]), .b (true), .b (true), .b (true), .b (true), .b (true), .b (true), .call (V.b (decide ((1 : Int) ≤ Worker.left w ∧ Worker.left w ≤ Worker.cost w))) ([[], [], []]), .b (true), .b (true), .b (true), .b (true), .call (V.b (decide (eights (Worker.inputs w)))) ([[]]), .b (true), .b (false), .b (false), .b (false), .b (false)] ?_
  conv => whnf
  refine ⟨⟨I, I, ⟨decide_eq_true (by omega), I⟩, ⟨decide_eq_true (by omega), I⟩, ⟨decide_eq_true (by omega), ⟨I, I, I, I⟩, I, ⟨⟨I, I⟩, ⟨I, I⟩, ⟨I, I⟩, I⟩, ⟨I, I⟩, Go.K.c_impl_within _ _ _⟩, decide_eq_true (by omega), I, ⟨decide_eq_true (by omega), I⟩, ⟨decide_eq_true (by omega), I⟩, ⟨decide_eq_true (by omega), I⟩, ⟨decide_eq_true (by omega), I⟩, ⟨decide_eq_true (by omega), ⟨I, I, I, I⟩, I, ⟨⟨I, I⟩, ⟨I, I⟩, ⟨I, I⟩, I⟩, ⟨I, I⟩, Go.K.c_impl_within _ _ _⟩, decide_eq_true (by omega), I, ⟨decide_eq_true (by omega), I⟩, ⟨decide_eq_true (by omega), I⟩, ⟨decide_eq_true (by omega), ⟨I, I⟩, I, ⟨⟨I, I⟩, I⟩, ⟨I, I⟩, Go.K.c_impl_eights _ (by omega)⟩, decide_eq_true (by omega), I, decide_eq_false (by omega), decide_eq_false (by omega), decide_eq_false (by omega), decide_eq_false (by omega), I, I⟩, ?_⟩
  refine W.ret ?_
  refine EndsW.rt ?_
  conv => whnf
  refine ⟨⟨I, I, I⟩, ?_, rfl⟩
  rotate_left 1
  refine g 5 99 [.b (true), .b (true), .b (true), .call (V.b (decide ((1 : Int) ≤ Worker.cost w ∧ Worker.cost w ≤ (20 : Int)))) ([[], [], []]), .b (true), .b (true), .b (true), .b (true), .b (true), .b (true), .call (V.b (decide ((1 : Int) ≤ Worker.left w ∧ Worker.left w ≤ Worker.cost w))) ([[], [], []]), .b (true), .b (false), .b (false), .b (false), .b (false), .b (false), .b (false), .b (false), .b (false)] ?_
  conv => whnf
  refine ⟨⟨I, I, ⟨decide_eq_true (by omega), I⟩, ⟨decide_eq_true (by omega), I⟩, ⟨decide_eq_true (by omega), ⟨I, I, I, I⟩, I, ⟨⟨I, I⟩, ⟨I, I⟩, ⟨I, I⟩, I⟩, ⟨I, I⟩, Go.K.c_impl_within _ _ _⟩, decide_eq_true (by omega), I, ⟨decide_eq_true (by omega), I⟩, ⟨decide_eq_true (by omega), I⟩, ⟨decide_eq_true (by omega), I⟩, ⟨decide_eq_true (by omega), I⟩, ⟨decide_eq_true (by omega), ⟨I, I, I, I⟩, I, ⟨⟨I, I⟩, ⟨I, I⟩, ⟨I, I⟩, I⟩, ⟨I, I⟩, Go.K.c_impl_within _ _ _⟩, decide_eq_true (by omega), I, decide_eq_false (by omega), decide_eq_false (by omega), decide_eq_false (by omega), decide_eq_false (by omega), I, rfl, rfl, rfl, rfl, I, I⟩, ?_⟩
  refine W.ret ?_
  refine EndsW.rt ?_
  conv => whnf
  refine ⟨⟨I, I, I⟩, ?_, rfl⟩
  rotate_left 1
  refine g 5 99 [.b (true), .b (true), .b (true), .call (V.b (decide ((1 : Int) ≤ Worker.cost w ∧ Worker.cost w ≤ (20 : Int)))) ([[], [], []]), .b (true), .b (false), .b (false), .b (false), .b (false), .b (false), .b (false), .b (false), .b (false), .b (false), .b (false), .b (false), .b (false), .b (false), .b (false)] ?_
  conv => whnf
  refine ⟨⟨I, I, ⟨decide_eq_true (by omega), I⟩, ⟨decide_eq_true (by omega), I⟩, ⟨decide_eq_true (by omega), ⟨I, I, I, I⟩, I, ⟨⟨I, I⟩, ⟨I, I⟩, ⟨I, I⟩, I⟩, ⟨I, I⟩, Go.K.c_impl_within _ _ _⟩, decide_eq_true (by omega), I, decide_eq_false (by omega), decide_eq_false (by omega), decide_eq_false (by omega), decide_eq_false (by omega), decide_eq_false (by omega), decide_eq_false (by omega), I, rfl, rfl, rfl, rfl, I, rfl, rfl, rfl, rfl, I, I⟩, ?_⟩
  refine W.ret ?_
  refine EndsW.rt ?_
  conv => whnf
  refine ⟨⟨I, I, I⟩, ?_, rfl⟩
  rotate_left 1
  refine g 5 99 [.b (false), .b (false), .b (false), .b (false), .b (false), .b (false), .b (false), .b (false), .b (false), .b (false), .b (false), .b (false), .b (false), .b (false), .b (false), .b (false), .b (false), .b (false)] ?_
  conv => whnf
  refine ⟨⟨I, I, decide_eq_false (by omega), decide_eq_false (by omega), decide_eq_false (by omega), decide_eq_false (by omega), I, rfl, rfl, rfl, rfl, rfl, rfl, I, rfl, rfl, rfl, rfl, I, rfl, rfl, rfl, rfl, I, I⟩, ?_⟩
  refine W.ret ?_
  refine EndsW.rt ?_
  conv => whnf
  refine ⟨⟨I, I, I⟩, ?_, rfl⟩
  rotate_left 1
  replace h7 := df h7
  refine g 18 76 [] ?_
  conv => whnf
  refine ⟨⟨I, I, I⟩, ?_⟩
  refine W.cn ?_
  conv => whnf
  refine ⟨fun h8 => ?_, fun h8 => ?_⟩
  replace h8 := dt h8
  by_cases h9 : (0 : Int) ≤ Worker.task w ∧ Worker.task w ≤ (39 : Int)
  by_cases h10 : Worker.cost w = (0 : Int)
  by_cases h11 : Worker.left w = (0 : Int)
  by_cases h12 : (↑(List.length (List.map strT (Worker.inputs w))) : Int) = (0 : Int)
  simp only [List.length_map] at h12
  refine g 5 124 [.b (true), .b (true), .b (true), .b (true), .b (true), .b (true), .b (true), .b (true), .b (true), .b (true), .b (true), .b (true), .b (true), .b (true), .b (true), .b (true), .b (true), .b (true)] ?_
  conv => whnf
  refine ⟨⟨I, I, ⟨decide_eq_true (by omega), I⟩, ⟨decide_eq_true (by omega), I⟩, ⟨decide_eq_true (by omega), I⟩, decide_eq_true (by omega), I, ⟨decide_eq_true (by omega), I⟩, ⟨decide_eq_true (by omega), I⟩, ⟨decide_eq_true (by omega), I⟩, decide_eq_true (by omega), I, ⟨decide_eq_true (by omega), I⟩, ⟨decide_eq_true (by omega), I⟩, ⟨decide_eq_true (by omega), I⟩, ⟨decide_eq_true (by omega), I⟩, decide_eq_true (by omega), I, ⟨(by simp [*]), I⟩, ⟨(by simp [*]), I⟩, ⟨(by simp [*]), I⟩, ⟨(by simp [*]), I⟩, (by simp [*]), I, I⟩, ?_⟩
  refine W.ret ?_
  refine EndsW.rt ?_
  conv => whnf
  refine ⟨⟨I, I, I⟩, ?_, rfl⟩
  rotate_left 1
  simp only [List.length_map] at h12
  refine g 5 124 [.b (true), .b (true), .b (true), .b (true), .b (true), .b (true), .b (true), .b (true), .b (true), .b (true), .b (true), .b (true), .b (true), .b (false), .b (false), .b (false), .b (false), .b (false)] ?_
  conv => whnf
  refine ⟨⟨I, I, ⟨decide_eq_true (by omega), I⟩, ⟨decide_eq_true (by omega), I⟩, ⟨decide_eq_true (by omega), I⟩, decide_eq_true (by omega), I, ⟨decide_eq_true (by omega), I⟩, ⟨decide_eq_true (by omega), I⟩, ⟨decide_eq_true (by omega), I⟩, decide_eq_true (by omega), I, ⟨decide_eq_true (by omega), I⟩, ⟨decide_eq_true (by omega), I⟩, ⟨decide_eq_true (by omega), I⟩, ⟨decide_eq_true (by omega), I⟩, decide_eq_true (by omega), I, (by simp_all), (by simp_all), (by simp_all), (by simp_all), (by simp_all), I, I⟩, ?_⟩
  refine W.ret ?_
  refine EndsW.rt ?_
  conv => whnf
  refine ⟨⟨I, I, I⟩, ?_, rfl⟩
  rotate_left 1
  refine g 5 124 [.b (true), .b (true), .b (true), .b (true), .b (true), .b (true), .b (true), .b (true), .b (false), .b (false), .b (false), .b (false), .b (false), .b (false), .b (false), .b (false), .b (false), .b (false)] ?_
  conv => whnf
  refine ⟨⟨I, I, ⟨decide_eq_true (by omega), I⟩, ⟨decide_eq_true (by omega), I⟩, ⟨decide_eq_true (by omega), I⟩, decide_eq_true (by omega), I, ⟨decide_eq_true (by omega), I⟩, ⟨decide_eq_true (by omega), I⟩, ⟨decide_eq_true (by omega), I⟩, decide_eq_true (by omega), I, decide_eq_false (by omega), decide_eq_false (by omega), decide_eq_false (by omega), decide_eq_false (by omega), decide_eq_false (by omega), I, rfl, rfl, rfl, rfl, rfl, I, I⟩, ?_⟩
  refine W.ret ?_
  refine EndsW.rt ?_
  conv => whnf
  refine ⟨⟨I, I, I⟩, ?_, rfl⟩
  rotate_left 1
  refine g 5 124 [.b (true), .b (true), .b (true), .b (true), .b (false), .b (false), .b (false), .b (false), .b (false), .b (false), .b (false), .b (false), .b (false), .b (false), .b (false), .b (false), .b (false), .b (false)] ?_
  conv => whnf
  refine ⟨⟨I, I, ⟨decide_eq_true (by omega), I⟩, ⟨decide_eq_true (by omega), I⟩, ⟨decide_eq_true (by omega), I⟩, decide_eq_true (by omega), I, decide_eq_false (by omega), decide_eq_false (by omega), decide_eq_false (by omega), decide_eq_false (by omega), I, rfl, rfl, rfl, rfl, rfl, I, rfl, rfl, rfl, rfl, rfl, I, I⟩, ?_⟩
  refine W.ret ?_
  refine EndsW.rt ?_
  conv => whnf
  refine ⟨⟨I, I, I⟩, ?_, rfl⟩
  rotate_left 1
  refine g 5 124 [.b (false), .b (false), .b (false), .b (false), .b (false), .b (false), .b (false), .b (false), .b (false), .b (false), .b (false), .b (false), .b (false), .b (false), .b (false), .b (false), .b (false), .b (false)] ?_
  conv => whnf
  refine ⟨⟨I, I, decide_eq_false (by omega), decide_eq_false (by omega), decide_eq_false (by omega), decide_eq_false (by omega), I, rfl, rfl, rfl, rfl, I, rfl, rfl, rfl, rfl, rfl, I, rfl, rfl, rfl, rfl, rfl, I, I⟩, ?_⟩
  refine W.ret ?_
  refine EndsW.rt ?_
  conv => whnf
  refine ⟨⟨I, I, I⟩, ?_, rfl⟩
  rotate_left 1
  replace h8 := df h8
  refine W.skip ?_
  refine g 5 101 [] ?_
  conv => whnf
  refine ⟨⟨I, I⟩, ?_⟩
  refine W.ret ?_
  refine EndsW.rt ?_
  conv => whnf
  refine ⟨⟨I, I, I⟩, ?_, rfl⟩
  rotate_left 1
  refine g 32 41 [.call (V.b (decide ((1 : Int) ≤ Worker.lease w ∧ Worker.lease w ≤ (300000000 : Int)))) ([[], [], []]), .b (false), .b (false), .b (false), .b (false)] ?_
  conv => whnf
  refine ⟨⟨I, I, ⟨⟨I, I, I, I⟩, I, ⟨⟨I, I⟩, ⟨I, I⟩, ⟨I, I⟩, I⟩, ⟨I, I⟩, Go.K.c_impl_within _ _ _⟩, I, decide_eq_false (by omega), decide_eq_false (by omega), decide_eq_false (by omega), decide_eq_false (by omega), I, I⟩, ?_⟩
  refine W.sq ?_
  refine g 19 24 [] ?_
  conv => whnf
  refine ⟨⟨I, I, I⟩, ?_⟩
  refine W.blk ?_
  refine g 9 11 [] ?_
  conv => whnf
  refine ⟨⟨I, I, I⟩, ?_⟩
  refine W.cn ?_
  conv => whnf
  refine ⟨fun h6 => ?_, fun h6 => ?_⟩
  replace h6 := dt h6
  by_cases h7 : Worker.lease w = (0 : Int)
  by_cases h8 : Worker.task w = (0 : Int)
  by_cases h9 : Worker.cost w = (0 : Int)
  by_cases h10 : Worker.left w = (0 : Int)
  by_cases h11 : (↑(List.length (List.map strT (Worker.inputs w))) : Int) = (0 : Int)
  simp only [List.length_map] at h11
  refine g 5 74 [.b (true), .b (true), .b (true), .b (true), .b (true), .b (true), .b (true), .b (true), .b (true), .b (true), .b (true), .b (true), .b (true), .b (true), .b (true), .b (true), .b (true), .b (true), .b (true), .b (true), .b (true)] ?_
  conv => whnf
  refine ⟨⟨I, I, I, I, ⟨decide_eq_true (by omega), I⟩, ⟨decide_eq_true (by omega), I⟩, ⟨decide_eq_true (by omega), I⟩, decide_eq_true (by omega), I, ⟨decide_eq_true (by omega), I⟩, ⟨decide_eq_true (by omega), I⟩, ⟨decide_eq_true (by omega), I⟩, decide_eq_true (by omega), I, ⟨decide_eq_true (by omega), I⟩, ⟨decide_eq_true (by omega), I⟩, ⟨decide_eq_true (by omega), I⟩, decide_eq_true (by omega), I, ⟨decide_eq_true (by omega), I⟩, ⟨decide_eq_true (by omega), I⟩, ⟨decide_eq_true (by omega), I⟩, ⟨decide_eq_true (by omega), I⟩, decide_eq_true (by omega), I, ⟨(by simp [*]), I⟩, ⟨(by simp [*]), I⟩, ⟨(by simp [*]), I⟩, (by simp [*]), I, I⟩, ?_⟩
  refine W.ret ?_
  refine EndsW.rt ?_
  conv => whnf
  refine ⟨⟨I, I, I⟩, ?_, rfl⟩
  rotate_left 1
  simp only [List.length_map] at h11
  refine g 5 74 [.b (true), .b (true), .b (true), .b (true), .b (true), .b (true), .b (true), .b (true), .b (true), .b (true), .b (true), .b (true), .b (true), .b (true), .b (true), .b (true), .b (true), .b (false), .b (false), .b (false), .b (false)] ?_
  conv => whnf
  refine ⟨⟨I, I, I, I, ⟨decide_eq_true (by omega), I⟩, ⟨decide_eq_true (by omega), I⟩, ⟨decide_eq_true (by omega), I⟩, decide_eq_true (by omega), I, ⟨decide_eq_true (by omega), I⟩, ⟨decide_eq_true (by omega), I⟩, ⟨decide_eq_true (by omega), I⟩, decide_eq_true (by omega), I, ⟨decide_eq_true (by omega), I⟩, ⟨decide_eq_true (by omega), I⟩, ⟨decide_eq_true (by omega), I⟩, decide_eq_true (by omega), I, ⟨decide_eq_true (by omega), I⟩, ⟨decide_eq_true (by omega), I⟩, ⟨decide_eq_true (by omega), I⟩, ⟨decide_eq_true (by omega), I⟩, decide_eq_true (by omega), I, (by simp_all), (by simp_all), (by simp_all), (by simp_all), I, I⟩, ?_⟩
  refine W.ret ?_
  refine EndsW.rt ?_
  conv => whnf
  refine ⟨⟨I, I, I⟩, ?_, rfl⟩
  rotate_left 1
  refine g 5 74 [.b (true), .b (true), .b (true), .b (true), .b (true), .b (true), .b (true), .b (true), .b (true), .b (true), .b (true), .b (true), .b (false), .b (false), .b (false), .b (false), .b (false), .b (false), .b (false), .b (false), .b (false)] ?_
  conv => whnf
  refine ⟨⟨I, I, I, I, ⟨decide_eq_true (by omega), I⟩, ⟨decide_eq_true (by omega), I⟩, ⟨decide_eq_true (by omega), I⟩, decide_eq_true (by omega), I, ⟨decide_eq_true (by omega), I⟩, ⟨decide_eq_true (by omega), I⟩, ⟨decide_eq_true (by omega), I⟩, decide_eq_true (by omega), I, ⟨decide_eq_true (by omega), I⟩, ⟨decide_eq_true (by omega), I⟩, ⟨decide_eq_true (by omega), I⟩, decide_eq_true (by omega), I, decide_eq_false (by omega), decide_eq_false (by omega), decide_eq_false (by omega), decide_eq_false (by omega), decide_eq_false (by omega), I, rfl, rfl, rfl, rfl, I, I⟩, ?_⟩
  refine W.ret ?_
  refine EndsW.rt ?_
  conv => whnf
  refine ⟨⟨I, I, I⟩, ?_, rfl⟩
  rotate_left 1
  refine g 5 74 [.b (true), .b (true), .b (true), .b (true), .b (true), .b (true), .b (true), .b (true), .b (false), .b (false), .b (false), .b (false), .b (false), .b (false), .b (false), .b (false), .b (false), .b (false), .b (false), .b (false), .b (false)] ?_
  conv => whnf
  refine ⟨⟨I, I, I, I, ⟨decide_eq_true (by omega), I⟩, ⟨decide_eq_true (by omega), I⟩, ⟨decide_eq_true (by omega), I⟩, decide_eq_true (by omega), I, ⟨decide_eq_true (by omega), I⟩, ⟨decide_eq_true (by omega), I⟩, ⟨decide_eq_true (by omega), I⟩, decide_eq_true (by omega), I, decide_eq_false (by omega), decide_eq_false (by omega), decide_eq_false (by omega), decide_eq_false (by omega), I, rfl, rfl, rfl, rfl, rfl, I, rfl, rfl, rfl, rfl, I, I⟩, ?_⟩
  refine W.ret ?_
  refine EndsW.rt ?_
  conv => whnf
  refine ⟨⟨I, I, I⟩, ?_, rfl⟩
  rotate_left 1
  refine g 5 74 [.b (true), .b (true), .b (true), .b (true), .b (false), .b (false), .b (false), .b (false), .b (false), .b (false), .b (false), .b (false), .b (false), .b (false), .b (false), .b (false), .b (false), .b (false), .b (false), .b (false), .b (false)] ?_
  conv => whnf
  refine ⟨⟨I, I, I, I, ⟨decide_eq_true (by omega), I⟩, ⟨decide_eq_true (by omega), I⟩, ⟨decide_eq_true (by omega), I⟩, decide_eq_true (by omega), I, decide_eq_false (by omega), decide_eq_false (by omega), decide_eq_false (by omega), decide_eq_false (by omega), I, rfl, rfl, rfl, rfl, I, rfl, rfl, rfl, rfl, rfl, I, rfl, rfl, rfl, rfl, I, I⟩, ?_⟩
  refine W.ret ?_
  refine EndsW.rt ?_
  conv => whnf
  refine ⟨⟨I, I, I⟩, ?_, rfl⟩
  rotate_left 1
  refine g 5 74 [.b (false), .b (false), .b (false), .b (false), .b (false), .b (false), .b (false), .b (false), .b (false), .b (false), .b (false), .b (false), .b (false), .b (false), .b (false), .b (false), .b (false), .b (false), .b (false), .b (false), .b (false)] ?_
  conv => whnf
  refine ⟨⟨I, I, I, I, decide_eq_false (by omega), decide_eq_false (by omega), decide_eq_false (by omega), decide_eq_false (by omega), I, rfl, rfl, rfl, rfl, I, rfl, rfl, rfl, rfl, I, rfl, rfl, rfl, rfl, rfl, I, rfl, rfl, rfl, rfl, I, I⟩, ?_⟩
  refine W.ret ?_
  refine EndsW.rt ?_
  conv => whnf
  refine ⟨⟨I, I, I⟩, ?_, rfl⟩
  rotate_left 1
  replace h6 := df h6
  refine g 7 9 [] ?_
  conv => whnf
  refine ⟨⟨I, I, I⟩, ?_⟩
  refine W.cn ?_
  conv => whnf
  refine ⟨fun h7 => ?_, fun h7 => ?_⟩
  replace h7 := dt h7
  refine g 5 99 [.b (false), .b (false), .b (false), .b (false), .b (false), .b (false), .b (false), .b (false), .b (false), .b (false), .b (false), .b (false), .b (false), .b (false), .b (false), .b (false), .b (false), .b (false)] ?_
  conv => whnf
  refine ⟨⟨I, I, rfl, rfl, rfl, rfl, I, rfl, rfl, rfl, rfl, rfl, rfl, I, rfl, rfl, rfl, rfl, I, rfl, rfl, rfl, rfl, I, I⟩, ?_⟩
  refine W.ret ?_
  refine EndsW.rt ?_
  conv => whnf
  refine ⟨⟨I, I, I⟩, ?_, rfl⟩
  rotate_left 1
  replace h7 := df h7
  refine g 18 76 [] ?_
  conv => whnf
  refine ⟨⟨I, I, I⟩, ?_⟩
  refine W.cn ?_
  conv => whnf
  refine ⟨fun h8 => ?_, fun h8 => ?_⟩
  replace h8 := dt h8
  refine g 5 124 [.b (false), .b (false), .b (false), .b (false), .b (false), .b (false), .b (false), .b (false), .b (false), .b (false), .b (false), .b (false), .b (false), .b (false), .b (false), .b (false), .b (false), .b (false)] ?_
  conv => whnf
  refine ⟨⟨I, I, rfl, rfl, rfl, rfl, I, rfl, rfl, rfl, rfl, I, rfl, rfl, rfl, rfl, rfl, I, rfl, rfl, rfl, rfl, rfl, I, I⟩, ?_⟩
  refine W.ret ?_
  refine EndsW.rt ?_
  conv => whnf
  refine ⟨⟨I, I, I⟩, ?_, rfl⟩
  rotate_left 1
  replace h8 := df h8
  refine W.skip ?_
  refine g 5 101 [] ?_
  conv => whnf
  refine ⟨⟨I, I⟩, ?_⟩
  refine W.ret ?_
  refine EndsW.rt ?_
  conv => whnf
  refine ⟨⟨I, I, I⟩, ?_, rfl⟩
  rotate_left 1
  replace h4 := Bool.eq_false_iff.2 h4
  by_cases h5 : Worker.state w = (0 : Int)
  refine g 25 32 [.b (true), .b (true), .b (true), .b (true), .b (false), .b (false), .b (false), .b (true), .b (false), .b (true)] ?_
  conv => whnf
  refine ⟨⟨I, I, I, I, ⟨nbT (by assumption), I⟩, ⟨nbT (by assumption), I⟩, ⟨nbT (by assumption), I⟩, ⟨nbT (by assumption), I⟩, ⟨notF (by omega), I⟩, ⟨notF (by omega), I⟩, ⟨notF (by omega), I⟩, ⟨nbT (by assumption), notF (by omega)⟩, nbT (by assumption), I⟩, ?_⟩
  refine W.cn ?_
  conv => whnf
  refine ⟨fun h6 => ?_, fun h6 => ?_⟩
  replace h6 := ndt h6
  refine g 19 24 [] ?_
  conv => whnf
  refine ⟨⟨I, I⟩, ?_⟩
  refine W.ret ?_
  refine EndsW.rt ?_
  conv => whnf
  refine ⟨⟨I, I, I⟩, ?_, rfl⟩
  rotate_left 1
  replace h6 := ndf h6
  refine W.skip ?_
  by_cases h7 : (1 : Int) ≤ Worker.lease w ∧ Worker.lease w ≤ (300000000 : Int)
  refine g 32 41 [.call (V.b (decide ((1 : Int) ≤ Worker.lease w ∧ Worker.lease w ≤ (300000000 : Int)))) ([[], [], []]), .b (true), .b (true), .b (true), .call (V.b (decide ((0 : Int) ≤ Worker.task w ∧ Worker.task w ≤ (39 : Int)))) ([[], [], []]), .b (true)] ?_
  conv => whnf
  refine ⟨⟨I, I, ⟨⟨I, I, I, I⟩, I, ⟨⟨I, I⟩, ⟨I, I⟩, ⟨I, I⟩, I⟩, ⟨I, I⟩, Go.K.c_impl_within _ _ _⟩, I, ⟨decide_eq_true (by omega), I⟩, ⟨decide_eq_true (by omega), I⟩, ⟨decide_eq_true (by omega), ⟨I, I, I, I⟩, I, ⟨⟨I, I⟩, ⟨I, I⟩, ⟨I, I⟩, I⟩, ⟨I, I⟩, Go.K.c_impl_within _ _ _⟩, decide_eq_true (by omega), I, I⟩, ?_⟩
  refine W.sq ?_
  refine g 19 24 [] ?_
  conv => whnf
  refine ⟨⟨I, I, I⟩, ?_⟩
  refine W.blk ?_
  refine g 9 11 [] ?_
  conv => whnf
  refine ⟨⟨I, I, I⟩, ?_⟩
  refine W.cn ?_
  conv => whnf
  refine ⟨fun _ => ?_, noF (decide_eq_true (by omega))⟩
  refine g 5 74 [.b (false), .b (false), .b (false), .b (false), .b (false), .b (false), .b (false), .b (false), .b (false), .b (false), .b (false), .b (false), .b (false), .b (false), .b (false), .b (false), .b (false), .b (false), .b (false), .b (false), .b (false)] ?_
  conv => whnf
  refine ⟨⟨I, I, I, I, decide_eq_false (by omega), decide_eq_false (by omega), decide_eq_false (by omega), decide_eq_false (by omega), I, rfl, rfl, rfl, rfl, I, rfl, rfl, rfl, rfl, I, rfl, rfl, rfl, rfl, rfl, I, rfl, rfl, rfl, rfl, I, I⟩, ?_⟩
  refine W.ret ?_
  refine EndsW.rt ?_
  conv => whnf
  refine ⟨⟨I, I, I⟩, ?_, rfl⟩
  rotate_left 1
  refine g 32 41 [.call (V.b (decide ((1 : Int) ≤ Worker.lease w ∧ Worker.lease w ≤ (300000000 : Int)))) ([[], [], []]), .b (false), .b (false), .b (false), .b (false)] ?_
  conv => whnf
  refine ⟨⟨I, I, ⟨⟨I, I, I, I⟩, I, ⟨⟨I, I⟩, ⟨I, I⟩, ⟨I, I⟩, I⟩, ⟨I, I⟩, Go.K.c_impl_within _ _ _⟩, I, decide_eq_false (by omega), decide_eq_false (by omega), decide_eq_false (by omega), decide_eq_false (by omega), I, I⟩, ?_⟩
  refine W.sq ?_
  refine g 19 24 [] ?_
  conv => whnf
  refine ⟨⟨I, I, I⟩, ?_⟩
  refine W.blk ?_
  refine g 9 11 [] ?_
  conv => whnf
  refine ⟨⟨I, I, I⟩, ?_⟩
  refine W.cn ?_
  conv => whnf
  refine ⟨fun _ => ?_, noF (decide_eq_true (by omega))⟩
  by_cases h8 : Worker.lease w = (0 : Int)
  by_cases h9 : Worker.task w = (0 : Int)
  by_cases h10 : Worker.cost w = (0 : Int)
  by_cases h11 : Worker.left w = (0 : Int)
  by_cases h12 : (↑(List.length (List.map strT (Worker.inputs w))) : Int) = (0 : Int)
  simp only [List.length_map] at h12
  refine g 5 74 [.b (true), .b (true), .b (true), .b (true), .b (true), .b (true), .b (true), .b (true), .b (true), .b (true), .b (true), .b (true), .b (true), .b (true), .b (true), .b (true), .b (true), .b (true), .b (true), .b (true), .b (true)] ?_
  conv => whnf
  refine ⟨⟨I, I, I, I, ⟨decide_eq_true (by omega), I⟩, ⟨decide_eq_true (by omega), I⟩, ⟨decide_eq_true (by omega), I⟩, decide_eq_true (by omega), I, ⟨decide_eq_true (by omega), I⟩, ⟨decide_eq_true (by omega), I⟩, ⟨decide_eq_true (by omega), I⟩, decide_eq_true (by omega), I, ⟨decide_eq_true (by omega), I⟩, ⟨decide_eq_true (by omega), I⟩, ⟨decide_eq_true (by omega), I⟩, decide_eq_true (by omega), I, ⟨decide_eq_true (by omega), I⟩, ⟨decide_eq_true (by omega), I⟩, ⟨decide_eq_true (by omega), I⟩, ⟨decide_eq_true (by omega), I⟩, decide_eq_true (by omega), I, ⟨(by simp [*]), I⟩, ⟨(by simp [*]), I⟩, ⟨(by simp [*]), I⟩, (by simp [*]), I, I⟩, ?_⟩
  refine W.ret ?_
  refine EndsW.rt ?_
  conv => whnf
  refine ⟨⟨I, I, I⟩, ?_, rfl⟩
  rotate_left 1
  simp only [List.length_map] at h12
  refine g 5 74 [.b (true), .b (true), .b (true), .b (true), .b (true), .b (true), .b (true), .b (true), .b (true), .b (true), .b (true), .b (true), .b (true), .b (true), .b (true), .b (true), .b (true), .b (false), .b (false), .b (false), .b (false)] ?_
  conv => whnf
  refine ⟨⟨I, I, I, I, ⟨decide_eq_true (by omega), I⟩, ⟨decide_eq_true (by omega), I⟩, ⟨decide_eq_true (by omega), I⟩, decide_eq_true (by omega), I, ⟨decide_eq_true (by omega), I⟩, ⟨decide_eq_true (by omega), I⟩, ⟨decide_eq_true (by omega), I⟩, decide_eq_true (by omega), I, ⟨decide_eq_true (by omega), I⟩, ⟨decide_eq_true (by omega), I⟩, ⟨decide_eq_true (by omega), I⟩, decide_eq_true (by omega), I, ⟨decide_eq_true (by omega), I⟩, ⟨decide_eq_true (by omega), I⟩, ⟨decide_eq_true (by omega), I⟩, ⟨decide_eq_true (by omega), I⟩, decide_eq_true (by omega), I, (by simp_all), (by simp_all), (by simp_all), (by simp_all), I, I⟩, ?_⟩
  refine W.ret ?_
  refine EndsW.rt ?_
  conv => whnf
  refine ⟨⟨I, I, I⟩, ?_, rfl⟩
  rotate_left 1
  refine g 5 74 [.b (true), .b (true), .b (true), .b (true), .b (true), .b (true), .b (true), .b (true), .b (true), .b (true), .b (true), .b (true), .b (false), .b (false), .b (false), .b (false), .b (false), .b (false), .b (false), .b (false), .b (false)] ?_
  conv => whnf
  refine ⟨⟨I, I, I, I, ⟨decide_eq_true (by omega), I⟩, ⟨decide_eq_true (by omega), I⟩, ⟨decide_eq_true (by omega), I⟩, decide_eq_true (by omega), I, ⟨decide_eq_true (by omega), I⟩, ⟨decide_eq_true (by omega), I⟩, ⟨decide_eq_true (by omega), I⟩, decide_eq_true (by omega), I, ⟨decide_eq_true (by omega), I⟩, ⟨decide_eq_true (by omega), I⟩, ⟨decide_eq_true (by omega), I⟩, decide_eq_true (by omega), I, decide_eq_false (by omega), decide_eq_false (by omega), decide_eq_false (by omega), decide_eq_false (by omega), decide_eq_false (by omega), I, rfl, rfl, rfl, rfl, I, I⟩, ?_⟩
  refine W.ret ?_
  refine EndsW.rt ?_
  conv => whnf
  refine ⟨⟨I, I, I⟩, ?_, rfl⟩
  rotate_left 1
  refine g 5 74 [.b (true), .b (true), .b (true), .b (true), .b (true), .b (true), .b (true), .b (true), .b (false), .b (false), .b (false), .b (false), .b (false), .b (false), .b (false), .b (false), .b (false), .b (false), .b (false), .b (false), .b (false)] ?_
  conv => whnf
  refine ⟨⟨I, I, I, I, ⟨decide_eq_true (by omega), I⟩, ⟨decide_eq_true (by omega), I⟩, ⟨decide_eq_true (by omega), I⟩, decide_eq_true (by omega), I, ⟨decide_eq_true (by omega), I⟩, ⟨decide_eq_true (by omega), I⟩, ⟨decide_eq_true (by omega), I⟩, decide_eq_true (by omega), I, decide_eq_false (by omega), decide_eq_false (by omega), decide_eq_false (by omega), decide_eq_false (by omega), I, rfl, rfl, rfl, rfl, rfl, I, rfl, rfl, rfl, rfl, I, I⟩, ?_⟩
  refine W.ret ?_
  refine EndsW.rt ?_
  conv => whnf
  refine ⟨⟨I, I, I⟩, ?_, rfl⟩
  rotate_left 1
  refine g 5 74 [.b (true), .b (true), .b (true), .b (true), .b (false), .b (false), .b (false), .b (false), .b (false), .b (false), .b (false), .b (false), .b (false), .b (false), .b (false), .b (false), .b (false), .b (false), .b (false), .b (false), .b (false)] ?_
  conv => whnf
  refine ⟨⟨I, I, I, I, ⟨decide_eq_true (by omega), I⟩, ⟨decide_eq_true (by omega), I⟩, ⟨decide_eq_true (by omega), I⟩, decide_eq_true (by omega), I, decide_eq_false (by omega), decide_eq_false (by omega), decide_eq_false (by omega), decide_eq_false (by omega), I, rfl, rfl, rfl, rfl, I, rfl, rfl, rfl, rfl, rfl, I, rfl, rfl, rfl, rfl, I, I⟩, ?_⟩
  refine W.ret ?_
  refine EndsW.rt ?_
  conv => whnf
  refine ⟨⟨I, I, I⟩, ?_, rfl⟩
  rotate_left 1
  refine g 5 74 [.b (false), .b (false), .b (false), .b (false), .b (false), .b (false), .b (false), .b (false), .b (false), .b (false), .b (false), .b (false), .b (false), .b (false), .b (false), .b (false), .b (false), .b (false), .b (false), .b (false), .b (false)] ?_
  conv => whnf
  refine ⟨⟨I, I, I, I, decide_eq_false (by omega), decide_eq_false (by omega), decide_eq_false (by omega), decide_eq_false (by omega), I, rfl, rfl, rfl, rfl, I, rfl, rfl, rfl, rfl, I, rfl, rfl, rfl, rfl, rfl, I, rfl, rfl, rfl, rfl, I, I⟩, ?_⟩
  refine W.ret ?_
  refine EndsW.rt ?_
  conv => whnf
  refine ⟨⟨I, I, I⟩, ?_, rfl⟩
  rotate_left 1
  refine g 25 32 [.b (true), .b (true), .b (true), .b (true), .b (true), .b (true), .b (true), .b (true), .b (true), .b (true)] ?_
  conv => whnf
  refine ⟨⟨I, I, I, I, ⟨nbT (by assumption), I⟩, ⟨nbT (by assumption), I⟩, ⟨nbT (by assumption), I⟩, ⟨nbT (by assumption), I⟩, notT (by omega), notT (by omega), notT (by omega), ⟨nbT (by assumption), notT (by omega)⟩, nbT (by assumption), I⟩, ?_⟩
  refine W.cn ?_
  conv => whnf
  refine ⟨fun _ => ?_, noF (rfl)⟩
  refine g 19 24 [] ?_
  conv => whnf
  refine ⟨⟨I, I⟩, ?_⟩
  refine W.ret ?_
  refine EndsW.rt ?_
  conv => whnf
  refine ⟨⟨I, I, I⟩, ?_, rfl⟩
  rotate_left 1
  refine g 14 17 [.call (V.b (decide ((1 : Int) ≤ Worker.number w ∧ Worker.number w ≤ (8 : Int)))) ([[], [], []]), .b (false), .b (false), .b (false), .call (V.b (decide ((1 : Int) ≤ Worker.epoch w ∧ Worker.epoch w ≤ (300 : Int)))) ([[], [], []]), .b (false), .b (false), .b (true), .b (true), .b (true), .b (true), .b (true)] ?_
  conv => whnf
  refine ⟨⟨I, I, ⟨⟨I, I, I, I⟩, I, ⟨⟨I, I⟩, ⟨I, I⟩, ⟨I, I⟩, I⟩, ⟨I, I⟩, Go.K.c_impl_within _ _ _⟩, I, I, ⟨notF (by omega), I⟩, ⟨notF (by omega), I⟩, ⟨notF (by omega), ⟨I, I, I, I⟩, I, ⟨⟨I, I⟩, ⟨I, I⟩, ⟨I, I⟩, I⟩, ⟨I, I⟩, Go.K.c_impl_within _ _ _⟩, ⟨notF (by omega), I⟩, notF (by omega), I, notT (by omega), notT (by omega), notT (by omega), notT (by omega), notT (by omega), I⟩, ?_⟩
  refine W.cn ?_
  conv => whnf
  refine ⟨fun _ => ?_, noF (rfl)⟩
  refine g 9 11 [] ?_
  conv => whnf
  refine ⟨⟨I, I⟩, ?_⟩
  refine W.ret ?_
  refine EndsW.rt ?_
  conv => whnf
  refine ⟨⟨I, I, I⟩, ?_, rfl⟩
  rotate_left 1
  refine g 14 17 [.call (V.b (decide ((1 : Int) ≤ Worker.number w ∧ Worker.number w ≤ (8 : Int)))) ([[], [], []]), .b (true), .b (true), .b (true), .b (true), .b (true), .b (true), .b (true), .b (true), .b (true), .b (true)] ?_
  conv => whnf
  refine ⟨⟨I, I, ⟨⟨I, I, I, I⟩, I, ⟨⟨I, I⟩, ⟨I, I⟩, ⟨I, I⟩, I⟩, ⟨I, I⟩, Go.K.c_impl_within _ _ _⟩, I, I, notT (by omega), notT (by omega), notT (by omega), notT (by omega), notT (by omega), I, rfl, rfl, rfl, rfl, rfl, I⟩, ?_⟩
  refine W.cn ?_
  conv => whnf
  refine ⟨fun _ => ?_, noF (rfl)⟩
  refine g 9 11 [] ?_
  conv => whnf
  refine ⟨⟨I, I⟩, ?_⟩
  refine W.ret ?_
  refine EndsW.rt ?_
  conv => whnf
  refine ⟨⟨I, I, I⟩, ?_, rfl⟩
  rotate_left 1
  all_goals (try simp only [List.length_map, decide_eq_true_eq, Bool.not_eq_true, Bool.not_eq_true', decide_eq_false_iff_not] at *)
  all_goals first
    | exact vbf (by unfold workerOk workFreeOk workBusyOk workToldOk workHeld; grind)
    | exact vbt (by unfold workerOk workFreeOk workBusyOk workToldOk workHeld; grind)
    | exact vbd (by unfold workerOk workFreeOk workBusyOk workToldOk workHeld; grind)
theorem c_spec_ValidWorker (w : Worker) (hl : w.inputs.length ≤ 9223372036854775806) : F n_spec_ValidWorker [.val (workerR w)] (.b (decide (workerOk w))) [[]] := by
  refine i_spec_ValidWorker ?_
  conv => whnf
  refine g 0 1 [] ?_
  conv => whnf
  refine ⟨⟨⟨I, I, I, I, I, I, I, I, I, I, I, I⟩, I, I⟩, ?_⟩
  refine W.sq ?_
  by_cases h1 : (1 : Int) ≤ Worker.number w ∧ Worker.number w ≤ (8 : Int)
  by_cases h2 : (1 : Int) ≤ Worker.epoch w ∧ Worker.epoch w ≤ (300 : Int)
  refine g 9 13 [.call (V.b (decide ((1 : Int) ≤ Worker.number w ∧ Worker.number w ≤ (8 : Int)))) ([[], [], []]), .b (false), .b (false), .b (false), .call (V.b (decide ((1 : Int) ≤ Worker.epoch w ∧ Worker.epoch w ≤ (300 : Int)))) ([[], [], []]), .b (false), .b (false), .b (false), .b (false), .b (false), .call (V.b (decide ((0 : Int) ≤ Worker.since w ∧ Worker.since w ≤ (1000000 : Int)))) ([[], [], []]), .b (false), .b (false)] ?_
  conv => whnf
  refine ⟨⟨I, I, ⟨⟨I, I, I, I⟩, I, ⟨⟨I, I⟩, ⟨I, I⟩, ⟨I, I⟩, I⟩, ⟨I, I⟩, Go.K.c_spec_l2In _ _ _⟩, I, I, ⟨notF (by omega), I⟩, ⟨notF (by omega), I⟩, ⟨notF (by omega), ⟨I, I, I, I⟩, I, ⟨⟨I, I⟩, ⟨I, I⟩, ⟨I, I⟩, I⟩, ⟨I, I⟩, Go.K.c_spec_l2In _ _ _⟩, ⟨notF (by omega), I⟩, notF (by omega), I, ⟨notF (by omega), I⟩, ⟨notF (by omega), I⟩, ⟨notF (by omega), ⟨I, I, I, I⟩, I, ⟨⟨I, I⟩, ⟨I, I⟩, ⟨I, I⟩, I⟩, ⟨I, I⟩, Go.K.c_spec_l2In _ _ _⟩, ⟨notF (by omega), I⟩, notF (by omega), I⟩, ?_⟩
  refine W.cn ?_
  conv => whnf
  refine ⟨fun h3 => ?_, fun h3 => ?_⟩
  replace h3 := ndt h3
  refine g 15 18 [] ?_
  conv => whnf
  refine ⟨⟨I, I⟩, ?_⟩
  refine W.ret ?_
  refine EndsW.rt ?_
  conv => whnf
  refine ⟨⟨I, I, I⟩, ?_, rfl⟩
  rotate_left 1
  replace h3 := ndf h3
  refine W.skip ?_
  refine W.sq ?_
  by_cases h4 : Worker.up w = true
  refine g 26 31 [.b (false), .b (false), .b (false), .b (false), .b (false), .b (false), .b (false), .b (false), .b (false)] ?_
  conv => whnf
  refine ⟨⟨I, I, I, I, nbF (by assumption), nbF (by assumption), nbF (by assumption), nbF (by assumption), I, I, I, nbF (by assumption), nbF (by assumption), I⟩, ?_⟩
  refine W.cn ?_
  conv => whnf
  refine ⟨noT (rfl), fun _ => ?_⟩
  refine W.skip ?_
  refine W.sq ?_
  refine g 5 8 [] ?_
  conv => whnf
  refine ⟨⟨I, I, I⟩, ?_⟩
  refine W.blk ?_
  refine g 15 18 [] ?_
  conv => whnf
  refine ⟨⟨I, I, I⟩, ?_⟩
  refine W.cn ?_
  conv => whnf
  refine ⟨fun h5 => ?_, fun h5 => ?_⟩
  replace h5 := dt h5
  by_cases h6 : Worker.lease w = (0 : Int)
  by_cases h7 : Worker.task w = (0 : Int)
  by_cases h8 : Worker.cost w = (0 : Int)
  by_cases h9 : Worker.left w = (0 : Int)
  by_cases h10 : (↑(List.length (List.map strT (Worker.inputs w))) : Int) = (0 : Int)
  simp only [List.length_map] at h10
  refine g 8 65 [.b (true), .b (true), .b (true), .b (true), .b (true), .b (true), .b (true), .b (true), .b (true), .b (true), .b (true), .b (true), .b (true), .b (true), .b (true), .b (true), .b (true), .b (true), .b (true), .b (true), .b (true)] ?_
  conv => whnf
  refine ⟨⟨I, I, I, I, ⟨decide_eq_true (by omega), I⟩, ⟨decide_eq_true (by omega), I⟩, ⟨decide_eq_true (by omega), I⟩, decide_eq_true (by omega), I, ⟨decide_eq_true (by omega), I⟩, ⟨decide_eq_true (by omega), I⟩, ⟨decide_eq_true (by omega), I⟩, decide_eq_true (by omega), I, ⟨decide_eq_true (by omega), I⟩, ⟨decide_eq_true (by omega), I⟩, ⟨decide_eq_true (by omega), I⟩, decide_eq_true (by omega), I, ⟨decide_eq_true (by omega), I⟩, ⟨decide_eq_true (by omega), I⟩, ⟨decide_eq_true (by omega), I⟩, ⟨decide_eq_true (by omega), I⟩, decide_eq_true (by omega), I, ⟨(by simp [*]), I⟩, ⟨(by simp [*]), I⟩, ⟨(by simp [*]), I⟩, (by simp [*]), I, I⟩, ?_⟩
  refine W.ret ?_
  refine EndsW.rt ?_
  conv => whnf
  refine ⟨⟨I, I, I⟩, ?_, rfl⟩
  rotate_left 1
  simp only [List.length_map] at h10
  refine g 8 65 [.b (true), .b (true), .b (true), .b (true), .b (true), .b (true), .b (true), .b (true), .b (true), .b (true), .b (true), .b (true), .b (true), .b (true), .b (true), .b (true), .b (true), .b (false), .b (false), .b (false), .b (false)] ?_
  conv => whnf
  refine ⟨⟨I, I, I, I, ⟨decide_eq_true (by omega), I⟩, ⟨decide_eq_true (by omega), I⟩, ⟨decide_eq_true (by omega), I⟩, decide_eq_true (by omega), I, ⟨decide_eq_true (by omega), I⟩, ⟨decide_eq_true (by omega), I⟩, ⟨decide_eq_true (by omega), I⟩, decide_eq_true (by omega), I, ⟨decide_eq_true (by omega), I⟩, ⟨decide_eq_true (by omega), I⟩, ⟨decide_eq_true (by omega), I⟩, decide_eq_true (by omega), I, ⟨decide_eq_true (by omega), I⟩, ⟨decide_eq_true (by omega), I⟩, ⟨decide_eq_true (by omega), I⟩, ⟨decide_eq_true (by omega), I⟩, decide_eq_true (by omega), I, (by simp_all), (by simp_all), (by simp_all), (by simp_all), I, I⟩, ?_⟩
  refine W.ret ?_
  refine EndsW.rt ?_
  conv => whnf
  refine ⟨⟨I, I, I⟩, ?_, rfl⟩
  rotate_left 1
  refine g 8 65 [.b (true), .b (true), .b (true), .b (true), .b (true), .b (true), .b (true), .b (true), .b (true), .b (true), .b (true), .b (true), .b (false), .b (false), .b (false), .b (false), .b (false), .b (false), .b (false), .b (false), .b (false)] ?_
  conv => whnf
  refine ⟨⟨I, I, I, I, ⟨decide_eq_true (by omega), I⟩, ⟨decide_eq_true (by omega), I⟩, ⟨decide_eq_true (by omega), I⟩, decide_eq_true (by omega), I, ⟨decide_eq_true (by omega), I⟩, ⟨decide_eq_true (by omega), I⟩, ⟨decide_eq_true (by omega), I⟩, decide_eq_true (by omega), I, ⟨decide_eq_true (by omega), I⟩, ⟨decide_eq_true (by omega), I⟩, ⟨decide_eq_true (by omega), I⟩, decide_eq_true (by omega), I, decide_eq_false (by omega), decide_eq_false (by omega), decide_eq_false (by omega), decide_eq_false (by omega), decide_eq_false (by omega), I, rfl, rfl, rfl, rfl, I, I⟩, ?_⟩
  refine W.ret ?_
  refine EndsW.rt ?_
  conv => whnf
  refine ⟨⟨I, I, I⟩, ?_, rfl⟩
  rotate_left 1
  refine g 8 65 [.b (true), .b (true), .b (true), .b (true), .b (true), .b (true), .b (true), .b (true), .b (false), .b (false), .b (false), .b (false), .b (false), .b (false), .b (false), .b (false), .b (false), .b (false), .b (false), .b (false), .b (false)] ?_
  conv => whnf
  refine ⟨⟨I, I, I, I, ⟨decide_eq_true (by omega), I⟩, ⟨decide_eq_true (by omega), I⟩, ⟨decide_eq_true (by omega), I⟩, decide_eq_true (by omega), I, ⟨decide_eq_true (by omega), I⟩, ⟨decide_eq_true (by omega), I⟩, ⟨decide_eq_true (by omega), I⟩, decide_eq_true (by omega), I, decide_eq_false (by omega), decide_eq_false (by omega), decide_eq_false (by omega), decide_eq_false (by omega), I, rfl, rfl, rfl, rfl, rfl, I, rfl, rfl, rfl, rfl, I, I⟩, ?_⟩
  refine W.ret ?_
  refine EndsW.rt ?_
  conv => whnf
  refine ⟨⟨I, I, I⟩, ?_, rfl⟩
  rotate_left 1
  refine g 8 65 [.b (true), .b (true), .b (true), .b (true), .b (false), .b (false), .b (false), .b (false), .b (false), .b (false), .b (false), .b (false), .b (false), .b (false), .b (false), .b (false), .b (false), .b (false), .b (false), .b (false), .b (false)] ?_
  conv => whnf
  refine ⟨⟨I, I, I, I, ⟨decide_eq_true (by omega), I⟩, ⟨decide_eq_true (by omega), I⟩, ⟨decide_eq_true (by omega), I⟩, decide_eq_true (by omega), I, decide_eq_false (by omega), decide_eq_false (by omega), decide_eq_false (by omega), decide_eq_false (by omega), I, rfl, rfl, rfl, rfl, I, rfl, rfl, rfl, rfl, rfl, I, rfl, rfl, rfl, rfl, I, I⟩, ?_⟩
  refine W.ret ?_
  refine EndsW.rt ?_
  conv => whnf
  refine ⟨⟨I, I, I⟩, ?_, rfl⟩
  rotate_left 1
  refine g 8 65 [.b (false), .b (false), .b (false), .b (false), .b (false), .b (false), .b (false), .b (false), .b (false), .b (false), .b (false), .b (false), .b (false), .b (false), .b (false), .b (false), .b (false), .b (false), .b (false), .b (false), .b (false)] ?_
  conv => whnf
  refine ⟨⟨I, I, I, I, decide_eq_false (by omega), decide_eq_false (by omega), decide_eq_false (by omega), decide_eq_false (by omega), I, rfl, rfl, rfl, rfl, I, rfl, rfl, rfl, rfl, I, rfl, rfl, rfl, rfl, rfl, I, rfl, rfl, rfl, rfl, I, I⟩, ?_⟩
  refine W.ret ?_
  refine EndsW.rt ?_
  conv => whnf
  refine ⟨⟨I, I, I⟩, ?_, rfl⟩
  rotate_left 1
  replace h5 := df h5
  refine g 21 24 [] ?_
  conv => whnf
  refine ⟨⟨I, I, I⟩, ?_⟩
  refine W.cn ?_
  conv => whnf
  refine ⟨fun h6 => ?_, fun h6 => ?_⟩
  replace h6 := dt h6
  by_cases h7 : (1 : Int) ≤ Worker.lease w ∧ Worker.lease w ≤ (300000000 : Int)
  by_cases h8 : (0 : Int) ≤ Worker.task w ∧ Worker.task w ≤ (39 : Int)
  by_cases h9 : (1 : Int) ≤ Worker.cost w ∧ Worker.cost w ≤ (20 : Int)
  by_cases h10 : (1 : Int) ≤ Worker.left w ∧ Worker.left w ≤ Worker.cost w
  by_cases h11 : eights (Worker.inputs w)
  refine g 8 97 [.call (V.b (decide ((1 : Int) ≤ Worker.lease w ∧ Worker.lease w ≤ (300000000 : Int)))) ([[]]), .b (true), .b (true), .b (true), .call (V.b (decide ((0 : Int) ≤ Worker.task w ∧ Worker.task w ≤ (39 : Int)))) ([[], [], []]), .b (true), .b (true), .b (true), .b (true), .call (V.b (decide ((1 : Int) ≤ Worker.cost w ∧ Worker.cost w ≤ (20 : Int)))) ([[], [], []]), .b (true), .b (true), .b (true), .b (true), .b (true), .b (true), .call (V.b (decide ((1 : Int) ≤ Worker.left w ∧ Worker.left w ≤ Worker.cost w))) ([[], [], []]), .b (true), .b (true), .b (true), .b (true), .call (V.b (decide (eights (Worker.inputs w)))) ([[]]), .b (true), .b (true), .b (true), .b (true), .b (true)] ?_
  conv => whnf
  refine ⟨⟨I, I, ⟨⟨I, I⟩, I, ⟨⟨I, I⟩, I⟩, ⟨I, I⟩, Go.K.c_spec_l2LeaseOk _⟩, I, ⟨decide_eq_true (by omega), I⟩, ⟨decide_eq_true (by omega), I⟩, ⟨decide_eq_true (by omega), ⟨I, I, I, I⟩, I, ⟨⟨I, I⟩, ⟨I, I⟩, ⟨I, I⟩, I⟩, ⟨I, I⟩, Go.K.c_spec_l2In _ _ _⟩, decide_eq_true (by omega), I, ⟨decide_eq_true (by omega), I⟩, ⟨decide_eq_true (by omega), I⟩, ⟨decide_eq_true (by omega), ⟨I, I, I, I⟩, I, ⟨⟨I, I⟩, ⟨I, I⟩, ⟨I, I⟩, I⟩, ⟨I, I⟩, Go.K.c_spec_l2In _ _ _⟩, decide_eq_true (by omega), I, ⟨decide_eq_true (by omega), I⟩, ⟨decide_eq_true (by omega), I⟩, ⟨decide_eq_true (by omega), I⟩, ⟨decide_eq_true (by omega), I⟩, ⟨decide_eq_true (by omega), ⟨I, I, I, I⟩, I, ⟨⟨I, I⟩, ⟨I, I⟩, ⟨I, I⟩, I⟩, ⟨I, I⟩, Go.K.c_spec_l2In _ _ _⟩, decide_eq_true (by omega), I, ⟨decide_eq_true (by omega), I⟩, ⟨decide_eq_true (by omega), I⟩, ⟨decide_eq_true (by omega), ⟨I, I⟩, I, ⟨⟨I, I⟩, I⟩, ⟨I, I⟩, Go.K.c_spec_l2InputsOk _ (by omega)⟩, decide_eq_true (by omega), I, ⟨decide_eq_true (by omega), I⟩, ⟨decide_eq_true (by omega), I⟩, ⟨decide_eq_true (by omega), I⟩, decide_eq_true (by omega), I, I⟩, ?_⟩
  refine W.ret ?_
  refine EndsW.rt ?_
  conv => whnf
  refine ⟨⟨I, I, I⟩, ?_, rfl⟩
  rotate_left 1
  refine g 8 97 [.call (V.b (decide ((1 : Int) ≤ Worker.lease w ∧ Worker.lease w ≤ (300000000 : Int)))) ([[]]), .b (true), .b (true), .b (true), .call (V.b (decide ((0 : Int) ≤ Worker.task w ∧ Worker.task w ≤ (39 : Int)))) ([[], [], []]), .b (true), .b (true), .b (true), .b (true), .call (V.b (decide ((1 : Int) ≤ Worker.cost w ∧ Worker.cost w ≤ (20 : Int)))) ([[], [], []]), .b (true), .b (true), .b (true), .b (true), .b (true), .b (true), .call (V.b (decide ((1 : Int) ≤ Worker.left w ∧ Worker.left w ≤ Worker.cost w))) ([[], [], []]), .b (true), .b (true), .b (true), .b (true), .call (V.b (decide (eights (Worker.inputs w)))) ([[]]), .b (true), .b (false), .b (false), .b (false), .b (false)] ?_
  conv => whnf
  refine ⟨⟨I, I, ⟨⟨I, I⟩, I, ⟨⟨I, I⟩, I⟩, ⟨I, I⟩, Go.K.c_spec_l2LeaseOk _⟩, I, ⟨decide_eq_true (by omega), I⟩, ⟨decide_eq_true (by omega), I⟩, ⟨decide_eq_true (by omega), ⟨I, I, I, I⟩, I, ⟨⟨I, I⟩, ⟨I, I⟩, ⟨I, I⟩, I⟩, ⟨I, I⟩, Go.K.c_spec_l2In _ _ _⟩, decide_eq_true (by omega), I, ⟨decide_eq_true (by omega), I⟩, ⟨decide_eq_true (by omega), I⟩, ⟨decide_eq_true (by omega), ⟨I, I, I, I⟩, I, ⟨⟨I, I⟩, ⟨I, I⟩, ⟨I, I⟩, I⟩, ⟨I, I⟩, Go.K.c_spec_l2In _ _ _⟩, decide_eq_true (by omega), I, ⟨decide_eq_true (by omega), I⟩, ⟨decide_eq_true (by omega), I⟩, ⟨decide_eq_true (by omega), I⟩, ⟨decide_eq_true (by omega), I⟩, ⟨decide_eq_true (by omega), ⟨I, I, I, I⟩, I, ⟨⟨I, I⟩, ⟨I, I⟩, ⟨I, I⟩, I⟩, ⟨I, I⟩, Go.K.c_spec_l2In _ _ _⟩, decide_eq_true (by omega), I, ⟨decide_eq_true (by omega), I⟩, ⟨decide_eq_true (by omega), I⟩, ⟨decide_eq_true (by omega), ⟨I, I⟩, I, ⟨⟨I, I⟩, I⟩, ⟨I, I⟩, Go.K.c_spec_l2InputsOk _ (by omega)⟩, decide_eq_true (by omega), I, decide_eq_false (by omega), decide_eq_false (by omega), decide_eq_false (by omega), decide_eq_false (by omega), I, I⟩, ?_⟩
  refine W.ret ?_
  refine EndsW.rt ?_
  conv => whnf
  refine ⟨⟨I, I, I⟩, ?_, rfl⟩
  rotate_left 1
  refine g 8 97 [.call (V.b (decide ((1 : Int) ≤ Worker.lease w ∧ Worker.lease w ≤ (300000000 : Int)))) ([[]]), .b (true), .b (true), .b (true), .call (V.b (decide ((0 : Int) ≤ Worker.task w ∧ Worker.task w ≤ (39 : Int)))) ([[], [], []]), .b (true), .b (true), .b (true), .b (true), .call (V.b (decide ((1 : Int) ≤ Worker.cost w ∧ Worker.cost w ≤ (20 : Int)))) ([[], [], []]), .b (true), .b (true), .b (true), .b (true), .b (true), .b (true), .call (V.b (decide ((1 : Int) ≤ Worker.left w ∧ Worker.left w ≤ Worker.cost w))) ([[], [], []]), .b (true), .b (false), .b (false), .b (false), .b (false), .b (false), .b (false), .b (false), .b (false)] ?_
  conv => whnf
  refine ⟨⟨I, I, ⟨⟨I, I⟩, I, ⟨⟨I, I⟩, I⟩, ⟨I, I⟩, Go.K.c_spec_l2LeaseOk _⟩, I, ⟨decide_eq_true (by omega), I⟩, ⟨decide_eq_true (by omega), I⟩, ⟨decide_eq_true (by omega), ⟨I, I, I, I⟩, I, ⟨⟨I, I⟩, ⟨I, I⟩, ⟨I, I⟩, I⟩, ⟨I, I⟩, Go.K.c_spec_l2In _ _ _⟩, decide_eq_true (by omega), I, ⟨decide_eq_true (by omega), I⟩, ⟨decide_eq_true (by omega), I⟩, ⟨decide_eq_true (by omega), ⟨I, I, I, I⟩, I, ⟨⟨I, I⟩, ⟨I, I⟩, ⟨I, I⟩, I⟩, ⟨I, I⟩, Go.K.c_spec_l2In _ _ _⟩, decide_eq_true (by omega), I, ⟨decide_eq_true (by omega), I⟩, ⟨decide_eq_true (by omega), I⟩, ⟨decide_eq_true (by omega), I⟩, ⟨decide_eq_true (by omega), I⟩, ⟨decide_eq_true (by omega), ⟨I, I, I, I⟩, I, ⟨⟨I, I⟩, ⟨I, I⟩, ⟨I, I⟩, I⟩, ⟨I, I⟩, Go.K.c_spec_l2In _ _ _⟩, decide_eq_true (by omega), I, decide_eq_false (by omega), decide_eq_false (by omega), decide_eq_false (by omega), decide_eq_false (by omega), I, rfl, rfl, rfl, rfl, I, I⟩, ?_⟩
  refine W.ret ?_
  refine EndsW.rt ?_
  conv => whnf
  refine ⟨⟨I, I, I⟩, ?_, rfl⟩
  rotate_left 1
  refine g 8 97 [.call (V.b (decide ((1 : Int) ≤ Worker.lease w ∧ Worker.lease w ≤ (300000000 : Int)))) ([[]]), .b (true), .b (true), .b (true), .call (V.b (decide ((0 : Int) ≤ Worker.task w ∧ Worker.task w ≤ (39 : Int)))) ([[], [], []]), .b (true), .b (true), .b (true), .b (true), .call (V.b (decide ((1 : Int) ≤ Worker.cost w ∧ Worker.cost w ≤ (20 : Int)))) ([[], [], []]), .b (true), .b (false), .b (false), .b (false), .b (false), .b (false), .b (false), .b (false), .b (false), .b (false), .b (false), .b (false), .b (false), .b (false), .b (false)] ?_
  conv => whnf
  refine ⟨⟨I, I, ⟨⟨I, I⟩, I, ⟨⟨I, I⟩, I⟩, ⟨I, I⟩, Go.K.c_spec_l2LeaseOk _⟩, I, ⟨decide_eq_true (by omega), I⟩, ⟨decide_eq_true (by omega), I⟩, ⟨decide_eq_true (by omega), ⟨I, I, I, I⟩, I, ⟨⟨I, I⟩, ⟨I, I⟩, ⟨I, I⟩, I⟩, ⟨I, I⟩, Go.K.c_spec_l2In _ _ _⟩, decide_eq_true (by omega), I, ⟨decide_eq_true (by omega), I⟩, ⟨decide_eq_true (by omega), I⟩, ⟨decide_eq_true (by omega), ⟨I, I, I, I⟩, I, ⟨⟨I, I⟩, ⟨I, I⟩, ⟨I, I⟩, I⟩, ⟨I, I⟩, Go.K.c_spec_l2In _ _ _⟩, decide_eq_true (by omega), I, decide_eq_false (by omega), decide_eq_false (by omega), decide_eq_false (by omega), decide_eq_false (by omega), decide_eq_false (by omega), decide_eq_false (by omega), I, rfl, rfl, rfl, rfl, I, rfl, rfl, rfl, rfl, I, I⟩, ?_⟩
  refine W.ret ?_
  refine EndsW.rt ?_
  conv => whnf
  refine ⟨⟨I, I, I⟩, ?_, rfl⟩
  rotate_left 1
  refine g 8 97 [.call (V.b (decide ((1 : Int) ≤ Worker.lease w ∧ Worker.lease w ≤ (300000000 : Int)))) ([[]]), .b (true), .b (true), .b (true), .call (V.b (decide ((0 : Int) ≤ Worker.task w ∧ Worker.task w ≤ (39 : Int)))) ([[], [], []]), .b (true), .b (false), .b (false), .b (false), .b (false), .b (false), .b (false), .b (false), .b (false), .b (false), .b (false), .b (false), .b (false), .b (false), .b (false), .b (false), .b (false), .b (false), .b (false)] ?_
  conv => whnf
  refine ⟨⟨I, I, ⟨⟨I, I⟩, I, ⟨⟨I, I⟩, I⟩, ⟨I, I⟩, Go.K.c_spec_l2LeaseOk _⟩, I, ⟨decide_eq_true (by omega), I⟩, ⟨decide_eq_true (by omega), I⟩, ⟨decide_eq_true (by omega), ⟨I, I, I, I⟩, I, ⟨⟨I, I⟩, ⟨I, I⟩, ⟨I, I⟩, I⟩, ⟨I, I⟩, Go.K.c_spec_l2In _ _ _⟩, decide_eq_true (by omega), I, decide_eq_false (by omega), decide_eq_false (by omega), decide_eq_false (by omega), decide_eq_false (by omega), I, rfl, rfl, rfl, rfl, rfl, rfl, I, rfl, rfl, rfl, rfl, I, rfl, rfl, rfl, rfl, I, I⟩, ?_⟩
  refine W.ret ?_
  refine EndsW.rt ?_
  conv => whnf
  refine ⟨⟨I, I, I⟩, ?_, rfl⟩
  rotate_left 1
  refine g 8 97 [.call (V.b (decide ((1 : Int) ≤ Worker.lease w ∧ Worker.lease w ≤ (300000000 : Int)))) ([[]]), .b (false), .b (false), .b (false), .b (false), .b (false), .b (false), .b (false), .b (false), .b (false), .b (false), .b (false), .b (false), .b (false), .b (false), .b (false), .b (false), .b (false), .b (false), .b (false), .b (false), .b (false), .b (false)] ?_
  conv => whnf
  refine ⟨⟨I, I, ⟨⟨I, I⟩, I, ⟨⟨I, I⟩, I⟩, ⟨I, I⟩, Go.K.c_spec_l2LeaseOk _⟩, I, decide_eq_false (by omega), decide_eq_false (by omega), decide_eq_false (by omega), decide_eq_false (by omega), I, rfl, rfl, rfl, rfl, I, rfl, rfl, rfl, rfl, rfl, rfl, I, rfl, rfl, rfl, rfl, I, rfl, rfl, rfl, rfl, I, I⟩, ?_⟩
  refine W.ret ?_
  refine EndsW.rt ?_
  conv => whnf
  refine ⟨⟨I, I, I⟩, ?_, rfl⟩
  rotate_left 1
  replace h6 := df h6
  refine g 25 67 [] ?_
  conv => whnf
  refine ⟨⟨I, I, I⟩, ?_⟩
  refine W.cn ?_
  conv => whnf
  refine ⟨fun h7 => ?_, fun h7 => ?_⟩
  replace h7 := dt h7
  by_cases h8 : (1 : Int) ≤ Worker.lease w ∧ Worker.lease w ≤ (300000000 : Int)
  by_cases h9 : (0 : Int) ≤ Worker.task w ∧ Worker.task w ≤ (39 : Int)
  by_cases h10 : (↑(ByteArray.size (Worker.text w)) : Int) = (8 : Int)
  by_cases h11 : Worker.cost w = (0 : Int)
  by_cases h12 : Worker.left w = (0 : Int)
  refine g 8 129 [.call (V.b (decide ((1 : Int) ≤ Worker.lease w ∧ Worker.lease w ≤ (300000000 : Int)))) ([[]]), .b (true), .b (true), .b (true), .call (V.b (decide ((0 : Int) ≤ Worker.task w ∧ Worker.task w ≤ (39 : Int)))) ([[], [], []]), .b (true), .b (true), .b (true), .b (true), .b (true), .b (true), .b (true), .b (true), .b (true), .b (true), .b (true), .b (true), .b (true), .b (true), .b (true), .b (true), .b (true), .b (true), .b (true)] ?_
  conv => whnf
  refine ⟨⟨I, I, ⟨⟨I, I⟩, I, ⟨⟨I, I⟩, I⟩, ⟨I, I⟩, Go.K.c_spec_l2LeaseOk _⟩, I, ⟨decide_eq_true (by omega), I⟩, ⟨decide_eq_true (by omega), I⟩, ⟨decide_eq_true (by omega), ⟨I, I, I, I⟩, I, ⟨⟨I, I⟩, ⟨I, I⟩, ⟨I, I⟩, I⟩, ⟨I, I⟩, Go.K.c_spec_l2In _ _ _⟩, decide_eq_true (by omega), I, ⟨decide_eq_true (by omega), I⟩, ⟨decide_eq_true (by omega), I⟩, ⟨decide_eq_true (by omega), I⟩, ⟨decide_eq_true (by omega), I⟩, decide_eq_true (by omega), I, ⟨decide_eq_true (by omega), I⟩, ⟨decide_eq_true (by omega), I⟩, ⟨decide_eq_true (by omega), I⟩, decide_eq_true (by omega), I, ⟨decide_eq_true (by omega), I⟩, ⟨decide_eq_true (by omega), I⟩, ⟨decide_eq_true (by omega), I⟩, decide_eq_true (by omega), I, ⟨decide_eq_true (by omega), I⟩, ⟨decide_eq_true (by omega), I⟩, ⟨decide_eq_true (by omega), I⟩, ⟨decide_eq_true (by omega), I⟩, decide_eq_true (by omega), I, I⟩, ?_⟩
  refine W.ret ?_
  refine EndsW.rt ?_
  conv => whnf
  refine ⟨⟨I, I, I⟩, ?_, rfl⟩
  rotate_left 1
  refine g 8 129 [.call (V.b (decide ((1 : Int) ≤ Worker.lease w ∧ Worker.lease w ≤ (300000000 : Int)))) ([[]]), .b (true), .b (true), .b (true), .call (V.b (decide ((0 : Int) ≤ Worker.task w ∧ Worker.task w ≤ (39 : Int)))) ([[], [], []]), .b (true), .b (true), .b (true), .b (true), .b (true), .b (true), .b (true), .b (true), .b (true), .b (true), .b (true), .b (true), .b (true), .b (true), .b (false), .b (false), .b (false), .b (false), .b (false)] ?_
  conv => whnf
  refine ⟨⟨I, I, ⟨⟨I, I⟩, I, ⟨⟨I, I⟩, I⟩, ⟨I, I⟩, Go.K.c_spec_l2LeaseOk _⟩, I, ⟨decide_eq_true (by omega), I⟩, ⟨decide_eq_true (by omega), I⟩, ⟨decide_eq_true (by omega), ⟨I, I, I, I⟩, I, ⟨⟨I, I⟩, ⟨I, I⟩, ⟨I, I⟩, I⟩, ⟨I, I⟩, Go.K.c_spec_l2In _ _ _⟩, decide_eq_true (by omega), I, ⟨decide_eq_true (by omega), I⟩, ⟨decide_eq_true (by omega), I⟩, ⟨decide_eq_true (by omega), I⟩, ⟨decide_eq_true (by omega), I⟩, decide_eq_true (by omega), I, ⟨decide_eq_true (by omega), I⟩, ⟨decide_eq_true (by omega), I⟩, ⟨decide_eq_true (by omega), I⟩, decide_eq_true (by omega), I, ⟨decide_eq_true (by omega), I⟩, ⟨decide_eq_true (by omega), I⟩, ⟨decide_eq_true (by omega), I⟩, decide_eq_true (by omega), I, decide_eq_false (by omega), decide_eq_false (by omega), decide_eq_false (by omega), decide_eq_false (by omega), decide_eq_false (by omega), I, I⟩, ?_⟩
  refine W.ret ?_
  refine EndsW.rt ?_
  conv => whnf
  refine ⟨⟨I, I, I⟩, ?_, rfl⟩
  rotate_left 1
  refine g 8 129 [.call (V.b (decide ((1 : Int) ≤ Worker.lease w ∧ Worker.lease w ≤ (300000000 : Int)))) ([[]]), .b (true), .b (true), .b (true), .call (V.b (decide ((0 : Int) ≤ Worker.task w ∧ Worker.task w ≤ (39 : Int)))) ([[], [], []]), .b (true), .b (true), .b (true), .b (true), .b (true), .b (true), .b (true), .b (true), .b (true), .b (true), .b (false), .b (false), .b (false), .b (false), .b (false), .b (false), .b (false), .b (false), .b (false)] ?_
  conv => whnf
  refine ⟨⟨I, I, ⟨⟨I, I⟩, I, ⟨⟨I, I⟩, I⟩, ⟨I, I⟩, Go.K.c_spec_l2LeaseOk _⟩, I, ⟨decide_eq_true (by omega), I⟩, ⟨decide_eq_true (by omega), I⟩, ⟨decide_eq_true (by omega), ⟨I, I, I, I⟩, I, ⟨⟨I, I⟩, ⟨I, I⟩, ⟨I, I⟩, I⟩, ⟨I, I⟩, Go.K.c_spec_l2In _ _ _⟩, decide_eq_true (by omega), I, ⟨decide_eq_true (by omega), I⟩, ⟨decide_eq_true (by omega), I⟩, ⟨decide_eq_true (by omega), I⟩, ⟨decide_eq_true (by omega), I⟩, decide_eq_true (by omega), I, ⟨decide_eq_true (by omega), I⟩, ⟨decide_eq_true (by omega), I⟩, ⟨decide_eq_true (by omega), I⟩, decide_eq_true (by omega), I, decide_eq_false (by omega), decide_eq_false (by omega), decide_eq_false (by omega), decide_eq_false (by omega), I, rfl, rfl, rfl, rfl, rfl, I, I⟩, ?_⟩
  refine W.ret ?_
  refine EndsW.rt ?_
  conv => whnf
  refine ⟨⟨I, I, I⟩, ?_, rfl⟩
  rotate_left 1
  refine g 8 129 [.call (V.b (decide ((1 : Int) ≤ Worker.lease w ∧ Worker.lease w ≤ (300000000 : Int)))) ([[]]), .b (true), .b (true), .b (true), .call (V.b (decide ((0 : Int) ≤ Worker.task w ∧ Worker.task w ≤ (39 : Int)))) ([[], [], []]), .b (true), .b (true), .b (true), .b (true), .b (true), .b (true), .b (false), .b (false), .b (false), .b (false), .b (false), .b (false), .b (false), .b (false), .b (false), .b (false), .b (false), .b (false), .b (false)] ?_
  conv => whnf
  refine ⟨⟨I, I, ⟨⟨I, I⟩, I, ⟨⟨I, I⟩, I⟩, ⟨I, I⟩, Go.K.c_spec_l2LeaseOk _⟩, I, ⟨decide_eq_true (by omega), I⟩, ⟨decide_eq_true (by omega), I⟩, ⟨decide_eq_true (by omega), ⟨I, I, I, I⟩, I, ⟨⟨I, I⟩, ⟨I, I⟩, ⟨I, I⟩, I⟩, ⟨I, I⟩, Go.K.c_spec_l2In _ _ _⟩, decide_eq_true (by omega), I, ⟨decide_eq_true (by omega), I⟩, ⟨decide_eq_true (by omega), I⟩, ⟨decide_eq_true (by omega), I⟩, ⟨decide_eq_true (by omega), I⟩, decide_eq_true (by omega), I, decide_eq_false (by omega), decide_eq_false (by omega), decide_eq_false (by omega), decide_eq_false (by omega), I, rfl, rfl, rfl, rfl, I, rfl, rfl, rfl, rfl, rfl, I, I⟩, ?_⟩
  refine W.ret ?_
  refine EndsW.rt ?_
  conv => whnf
  refine ⟨⟨I, I, I⟩, ?_, rfl⟩
  rotate_left 1
  refine g 8 129 [.call (V.b (decide ((1 : Int) ≤ Worker.lease w ∧ Worker.lease w ≤ (300000000 : Int)))) ([[]]), .b (true), .b (true), .b (true), .call (V.b (decide ((0 : Int) ≤ Worker.task w ∧ Worker.task w ≤ (39 : Int)))) ([[], [], []]), .b (true), .b (false), .b (false), .b (false), .b (false), .b (false), .b (false), .b (false), .b (false), .b (false), .b (false), .b (false), .b (false), .b (false), .b (false), .b (false), .b (false), .b (false), .b (false)] ?_
  conv => whnf
  refine ⟨⟨I, I, ⟨⟨I, I⟩, I, ⟨⟨I, I⟩, I⟩, ⟨I, I⟩, Go.K.c_spec_l2LeaseOk _⟩, I, ⟨decide_eq_true (by omega), I⟩, ⟨decide_eq_true (by omega), I⟩, ⟨decide_eq_true (by omega), ⟨I, I, I, I⟩, I, ⟨⟨I, I⟩, ⟨I, I⟩, ⟨I, I⟩, I⟩, ⟨I, I⟩, Go.K.c_spec_l2In _ _ _⟩, decide_eq_true (by omega), I, decide_eq_false (by omega), decide_eq_false (by omega), decide_eq_false (by omega), decide_eq_false (by omega), decide_eq_false (by omega), I, rfl, rfl, rfl, rfl, I, rfl, rfl, rfl, rfl, I, rfl, rfl, rfl, rfl, rfl, I, I⟩, ?_⟩
  refine W.ret ?_
  refine EndsW.rt ?_
  conv => whnf
  refine ⟨⟨I, I, I⟩, ?_, rfl⟩
  rotate_left 1
  refine g 8 129 [.call (V.b (decide ((1 : Int) ≤ Worker.lease w ∧ Worker.lease w ≤ (300000000 : Int)))) ([[]]), .b (false), .b (false), .b (false), .b (false), .b (false), .b (false), .b (false), .b (false), .b (false), .b (false), .b (false), .b (false), .b (false), .b (false), .b (false), .b (false), .b (false), .b (false), .b (false), .b (false), .b (false), .b (false)] ?_
  conv => whnf
  refine ⟨⟨I, I, ⟨⟨I, I⟩, I, ⟨⟨I, I⟩, I⟩, ⟨I, I⟩, Go.K.c_spec_l2LeaseOk _⟩, I, decide_eq_false (by omega), decide_eq_false (by omega), decide_eq_false (by omega), decide_eq_false (by omega), I, rfl, rfl, rfl, rfl, rfl, I, rfl, rfl, rfl, rfl, I, rfl, rfl, rfl, rfl, I, rfl, rfl, rfl, rfl, rfl, I, I⟩, ?_⟩
  refine W.ret ?_
  refine EndsW.rt ?_
  conv => whnf
  refine ⟨⟨I, I, I⟩, ?_, rfl⟩
  rotate_left 1
  replace h7 := df h7
  refine W.skip ?_
  refine g 8 99 [] ?_
  conv => whnf
  refine ⟨⟨I, I⟩, ?_⟩
  refine W.ret ?_
  refine EndsW.rt ?_
  conv => whnf
  refine ⟨⟨I, I, I⟩, ?_, rfl⟩
  rotate_left 1
  replace h4 := Bool.eq_false_iff.2 h4
  by_cases h5 : Worker.state w = (0 : Int)
  refine g 26 31 [.b (true), .b (true), .b (true), .b (true), .b (false), .b (false), .b (false), .b (true), .b (false), .b (true)] ?_
  conv => whnf
  refine ⟨⟨I, I, I, I, ⟨nbT (by assumption), I⟩, ⟨nbT (by assumption), I⟩, ⟨nbT (by assumption), I⟩, ⟨nbT (by assumption), I⟩, ⟨notF (by omega), I⟩, ⟨notF (by omega), I⟩, ⟨notF (by omega), I⟩, ⟨nbT (by assumption), notF (by omega)⟩, nbT (by assumption), I⟩, ?_⟩
  refine W.cn ?_
  conv => whnf
  refine ⟨fun h6 => ?_, fun h6 => ?_⟩
  replace h6 := ndt h6
  refine g 5 8 [] ?_
  conv => whnf
  refine ⟨⟨I, I⟩, ?_⟩
  refine W.ret ?_
  refine EndsW.rt ?_
  conv => whnf
  refine ⟨⟨I, I, I⟩, ?_, rfl⟩
  rotate_left 1
  replace h6 := ndf h6
  refine W.skip ?_
  refine W.sq ?_
  refine g 5 8 [] ?_
  conv => whnf
  refine ⟨⟨I, I, I⟩, ?_⟩
  refine W.blk ?_
  refine g 15 18 [] ?_
  conv => whnf
  refine ⟨⟨I, I, I⟩, ?_⟩
  refine W.cn ?_
  conv => whnf
  refine ⟨fun _ => ?_, noF (decide_eq_true (by omega))⟩
  by_cases h7 : Worker.lease w = (0 : Int)
  by_cases h8 : Worker.task w = (0 : Int)
  by_cases h9 : Worker.cost w = (0 : Int)
  by_cases h10 : Worker.left w = (0 : Int)
  by_cases h11 : (↑(List.length (List.map strT (Worker.inputs w))) : Int) = (0 : Int)
  simp only [List.length_map] at h11
  refine g 8 65 [.b (true), .b (true), .b (true), .b (true), .b (true), .b (true), .b (true), .b (true), .b (true), .b (true), .b (true), .b (true), .b (true), .b (true), .b (true), .b (true), .b (true), .b (true), .b (true), .b (true), .b (true)] ?_
  conv => whnf
  refine ⟨⟨I, I, I, I, ⟨decide_eq_true (by omega), I⟩, ⟨decide_eq_true (by omega), I⟩, ⟨decide_eq_true (by omega), I⟩, decide_eq_true (by omega), I, ⟨decide_eq_true (by omega), I⟩, ⟨decide_eq_true (by omega), I⟩, ⟨decide_eq_true (by omega), I⟩, decide_eq_true (by omega), I, ⟨decide_eq_true (by omega), I⟩, ⟨decide_eq_true (by omega), I⟩, ⟨decide_eq_true (by omega), I⟩, decide_eq_true (by omega), I, ⟨decide_eq_true (by omega), I⟩, ⟨decide_eq_true (by omega), I⟩, ⟨decide_eq_true (by omega), I⟩, ⟨decide_eq_true (by omega), I⟩, decide_eq_true (by omega), I, ⟨(by simp [*]), I⟩, ⟨(by simp [*]), I⟩, ⟨(by simp [*]), I⟩, (by simp [*]), I, I⟩, ?_⟩
  refine W.ret ?_
  refine EndsW.rt ?_
  conv => whnf
  refine ⟨⟨I, I, I⟩, ?_, rfl⟩
  rotate_left 1
  simp only [List.length_map] at h11
  refine g 8 65 [.b (true), .b (true), .b (true), .b (true), .b (true), .b (true), .b (true), .b (true), .b (true), .b (true), .b (true), .b (true), .b (true), .b (true), .b (true), .b (true), .b (true), .b (false), .b (false), .b (false), .b (false)] ?_
  conv => whnf
  refine ⟨⟨I, I, I, I, ⟨decide_eq_true (by omega), I⟩, ⟨decide_eq_true (by omega), I⟩, ⟨decide_eq_true (by omega), I⟩, decide_eq_true (by omega), I, ⟨decide_eq_true (by omega), I⟩, ⟨decide_eq_true (by omega), I⟩, ⟨decide_eq_true (by omega), I⟩, decide_eq_true (by omega), I, ⟨decide_eq_true (by omega), I⟩, ⟨decide_eq_true (by omega), I⟩, ⟨decide_eq_true (by omega), I⟩, decide_eq_true (by omega), I, ⟨decide_eq_true (by omega), I⟩, ⟨decide_eq_true (by omega), I⟩, ⟨decide_eq_true (by omega), I⟩, ⟨decide_eq_true (by omega), I⟩, decide_eq_true (by omega), I, (by simp_all), (by simp_all), (by simp_all), (by simp_all), I, I⟩, ?_⟩
  refine W.ret ?_
  refine EndsW.rt ?_
  conv => whnf
  refine ⟨⟨I, I, I⟩, ?_, rfl⟩
  rotate_left 1
  refine g 8 65 [.b (true), .b (true), .b (true), .b (true), .b (true), .b (true), .b (true), .b (true), .b (true), .b (true), .b (true), .b (true), .b (false), .b (false), .b (false), .b (false), .b (false), .b (false), .b (false), .b (false), .b (false)] ?_
  conv => whnf
  refine ⟨⟨I, I, I, I, ⟨decide_eq_true (by omega), I⟩, ⟨decide_eq_true (by omega), I⟩, ⟨decide_eq_true (by omega), I⟩, decide_eq_true (by omega), I, ⟨decide_eq_true (by omega), I⟩, ⟨decide_eq_true (by omega), I⟩, ⟨decide_eq_true (by omega), I⟩, decide_eq_true (by omega), I, ⟨decide_eq_true (by omega), I⟩, ⟨decide_eq_true (by omega), I⟩, ⟨decide_eq_true (by omega), I⟩, decide_eq_true (by omega), I, decide_eq_false (by omega), decide_eq_false (by omega), decide_eq_false (by omega), decide_eq_false (by omega), decide_eq_false (by omega), I, rfl, rfl, rfl, rfl, I, I⟩, ?_⟩
  refine W.ret ?_
  refine EndsW.rt ?_
  conv => whnf
  refine ⟨⟨I, I, I⟩, ?_, rfl⟩
  rotate_left 1
  refine g 8 65 [.b (true), .b (true), .b (true), .b (true), .b (true), .b (true), .b (true), .b (true), .b (false), .b (false), .b (false), .b (false), .b (false), .b (false), .b (false), .b (false), .b (false), .b (false), .b (false), .b (false), .b (false)] ?_
  conv => whnf
  refine ⟨⟨I, I, I, I, ⟨decide_eq_true (by omega), I⟩, ⟨decide_eq_true (by omega), I⟩, ⟨decide_eq_true (by omega), I⟩, decide_eq_true (by omega), I, ⟨decide_eq_true (by omega), I⟩, ⟨decide_eq_true (by omega), I⟩, ⟨decide_eq_true (by omega), I⟩, decide_eq_true (by omega), I, decide_eq_false (by omega), decide_eq_false (by omega), decide_eq_false (by omega), decide_eq_false (by omega), I, rfl, rfl, rfl, rfl, rfl, I, rfl, rfl, rfl, rfl, I, I⟩, ?_⟩
  refine W.ret ?_
  refine EndsW.rt ?_
  conv => whnf
  refine ⟨⟨I, I, I⟩, ?_, rfl⟩
  rotate_left 1
  refine g 8 65 [.b (true), .b (true), .b (true), .b (true), .b (false), .b (false), .b (false), .b (false), .b (false), .b (false), .b (false), .b (false), .b (false), .b (false), .b (false), .b (false), .b (false), .b (false), .b (false), .b (false), .b (false)] ?_
  conv => whnf
  refine ⟨⟨I, I, I, I, ⟨decide_eq_true (by omega), I⟩, ⟨decide_eq_true (by omega), I⟩, ⟨decide_eq_true (by omega), I⟩, decide_eq_true (by omega), I, decide_eq_false (by omega), decide_eq_false (by omega), decide_eq_false (by omega), decide_eq_false (by omega), I, rfl, rfl, rfl, rfl, I, rfl, rfl, rfl, rfl, rfl, I, rfl, rfl, rfl, rfl, I, I⟩, ?_⟩
  refine W.ret ?_
  refine EndsW.rt ?_
  conv => whnf
  refine ⟨⟨I, I, I⟩, ?_, rfl⟩
  rotate_left 1
  refine g 8 65 [.b (false), .b (false), .b (false), .b (false), .b (false), .b (false), .b (false), .b (false), .b (false), .b (false), .b (false), .b (false), .b (false), .b (false), .b (false), .b (false), .b (false), .b (false), .b (false), .b (false), .b (false)] ?_
  conv => whnf
  refine ⟨⟨I, I, I, I, decide_eq_false (by omega), decide_eq_false (by omega), decide_eq_false (by omega), decide_eq_false (by omega), I, rfl, rfl, rfl, rfl, I, rfl, rfl, rfl, rfl, I, rfl, rfl, rfl, rfl, rfl, I, rfl, rfl, rfl, rfl, I, I⟩, ?_⟩
  refine W.ret ?_
  refine EndsW.rt ?_
  conv => whnf
  refine ⟨⟨I, I, I⟩, ?_, rfl⟩
  rotate_left 1
  refine g 26 31 [.b (true), .b (true), .b (true), .b (true), .b (true), .b (true), .b (true), .b (true), .b (true), .b (true)] ?_
  conv => whnf
  refine ⟨⟨I, I, I, I, ⟨nbT (by assumption), I⟩, ⟨nbT (by assumption), I⟩, ⟨nbT (by assumption), I⟩, ⟨nbT (by assumption), I⟩, notT (by omega), notT (by omega), notT (by omega), ⟨nbT (by assumption), notT (by omega)⟩, nbT (by assumption), I⟩, ?_⟩
  refine W.cn ?_
  conv => whnf
  refine ⟨fun _ => ?_, noF (rfl)⟩
  refine g 5 8 [] ?_
  conv => whnf
  refine ⟨⟨I, I⟩, ?_⟩
  refine W.ret ?_
  refine EndsW.rt ?_
  conv => whnf
  refine ⟨⟨I, I, I⟩, ?_, rfl⟩
  rotate_left 1
  refine g 9 13 [.call (V.b (decide ((1 : Int) ≤ Worker.number w ∧ Worker.number w ≤ (8 : Int)))) ([[], [], []]), .b (false), .b (false), .b (false), .call (V.b (decide ((1 : Int) ≤ Worker.epoch w ∧ Worker.epoch w ≤ (300 : Int)))) ([[], [], []]), .b (false), .b (false), .b (true), .b (true), .b (true), .b (true), .b (true)] ?_
  conv => whnf
  refine ⟨⟨I, I, ⟨⟨I, I, I, I⟩, I, ⟨⟨I, I⟩, ⟨I, I⟩, ⟨I, I⟩, I⟩, ⟨I, I⟩, Go.K.c_spec_l2In _ _ _⟩, I, I, ⟨notF (by omega), I⟩, ⟨notF (by omega), I⟩, ⟨notF (by omega), ⟨I, I, I, I⟩, I, ⟨⟨I, I⟩, ⟨I, I⟩, ⟨I, I⟩, I⟩, ⟨I, I⟩, Go.K.c_spec_l2In _ _ _⟩, ⟨notF (by omega), I⟩, notF (by omega), I, notT (by omega), notT (by omega), notT (by omega), notT (by omega), notT (by omega), I⟩, ?_⟩
  refine W.cn ?_
  conv => whnf
  refine ⟨fun _ => ?_, noF (rfl)⟩
  refine g 15 18 [] ?_
  conv => whnf
  refine ⟨⟨I, I⟩, ?_⟩
  refine W.ret ?_
  refine EndsW.rt ?_
  conv => whnf
  refine ⟨⟨I, I, I⟩, ?_, rfl⟩
  rotate_left 1
  refine g 9 13 [.call (V.b (decide ((1 : Int) ≤ Worker.number w ∧ Worker.number w ≤ (8 : Int)))) ([[], [], []]), .b (true), .b (true), .b (true), .b (true), .b (true), .b (true), .b (true), .b (true), .b (true), .b (true)] ?_
  conv => whnf
  refine ⟨⟨I, I, ⟨⟨I, I, I, I⟩, I, ⟨⟨I, I⟩, ⟨I, I⟩, ⟨I, I⟩, I⟩, ⟨I, I⟩, Go.K.c_spec_l2In _ _ _⟩, I, I, notT (by omega), notT (by omega), notT (by omega), notT (by omega), notT (by omega), I, rfl, rfl, rfl, rfl, rfl, I⟩, ?_⟩
  refine W.cn ?_
  conv => whnf
  refine ⟨fun _ => ?_, noF (rfl)⟩
  refine g 15 18 [] ?_
  conv => whnf
  refine ⟨⟨I, I⟩, ?_⟩
  refine W.ret ?_
  refine EndsW.rt ?_
  conv => whnf
  refine ⟨⟨I, I, I⟩, ?_, rfl⟩
  rotate_left 1
  all_goals (try simp only [List.length_map, decide_eq_true_eq, Bool.not_eq_true, Bool.not_eq_true', decide_eq_false_iff_not] at *)
  all_goals first
    | exact vbf (by unfold workerOk workFreeOk workBusyOk workToldOk workHeld; grind)
    | exact vbt (by unfold workerOk workFreeOk workBusyOk workToldOk workHeld; grind)
    | exact vbd (by unfold workerOk workFreeOk workBusyOk workToldOk workHeld; grind)
end Go.K

end

section
set_option linter.unusedVariables false
set_option linter.unusedSimpArgs false
set_option maxHeartbeats 4000000
set_option maxRecDepth 20000
open Go Go.Tm Go.Proofs
namespace Go.K
theorem c_impl_Worker_freed (w : Worker) (s : Int) : F n_impl_Worker_freed [.val (workerR w), .val (.i s)] (workerO ⟨w.number, w.epoch, w.up, 0, 0, 0, 0, 0, [], emp, s⟩) [[], []] := by
  refine i_impl_Worker_freed ?_
  conv => whnf
  refine g 0 0 [] ?_
  conv => whnf
  refine ⟨⟨⟨I, I, I, I, I, I, I, I, I, I, I, I⟩, I, I⟩, ?_⟩
  refine g 5 13 [] ?_
  conv => whnf
  refine ⟨⟨I, I, I, I, I, I, I, I, ⟨I, I, I, I, I, I, I, I, I, I, I, I⟩, I⟩, ?_⟩
  refine W.ret ?_
  refine EndsW.rt ?_
  conv => whnf
  refine ⟨⟨I, I, I, I, I, I, I, I, I, I, I, I, I⟩, ?_, rfl⟩
  rfl
theorem c_impl_clone (xs : List ByteArray) (hl : xs.length ≤ 1048576) : F n_impl_clone [.val (.t (strs xs))] (.own [false] (xs.map strT)) [[]] := by
  refine i_impl_clone ?_
  conv => whnf
  refine g 0 0 [] ?_
  conv => whnf
  refine ⟨⟨I, I⟩, ?_⟩
  refine g 3 6 [] ?_
  conv => whnf
  refine ⟨⟨I, I, ⟨I, I, (by simp only [List.length_map, List.length_append, List.length_set, List.length_replicate, List.length_cons, List.length_nil, List.length_take, List.length_drop, fill_len, fillI_len, List.length_range, bytesT_len]; omega)⟩, I, I⟩, ?_⟩
  refine W.ret ?_
  refine EndsW.rt ?_
  conv => whnf
  refine ⟨⟨I, I, I⟩, ?_, rfl⟩
  rfl
theorem c_spec_l3Copy (w : Worker) (hl : w.inputs.length ≤ 1048576) : F n_spec_l3Copy [.val (workerR w)] (workerO w) [[]] := by
  refine i_spec_l3Copy ?_
  conv => whnf
  refine g 0 1 [] ?_
  conv => whnf
  refine ⟨⟨⟨I, I, I, I, I, I, I, I, I, I, I, I⟩, I, I⟩, ?_⟩
  refine g 3 8 [] ?_
  conv => whnf
  refine ⟨⟨I, I, I, ⟨I, I, (by simp only [List.length_map, List.length_append, List.length_set, List.length_replicate, List.length_cons, List.length_nil, List.length_take, List.length_drop, fill_len, fillI_len, List.length_range, bytesT_len]; omega)⟩, I, ⟨I, I⟩, I⟩, ?_⟩
  refine g 1 2 [] ?_
  conv => whnf
  refine ⟨⟨I, ⟨I, I, I, I, I, I, I, I, I, I, I, I⟩, I⟩, ?_⟩
  refine W.ret ?_
  refine EndsW.rt ?_
  conv => whnf
  refine ⟨⟨I, I, I, I, I, I, I, I, I, I, I, I, I⟩, ?_, rfl⟩
  rfl
theorem c_impl_Worker_twin (w : Worker) (hl : w.inputs.length ≤ 1048576) : F n_impl_Worker_twin [.val (workerR w)] (workerO w) [[]] := by
  refine i_impl_Worker_twin ?_
  conv => whnf
  refine g 0 1 [] ?_
  conv => whnf
  refine ⟨⟨⟨I, I, I, I, I, I, I, I, I, I, I, I⟩, I, I⟩, ?_⟩
  refine g 3 7 [.call (V.own [false] (List.map strT (Worker.inputs w))) ([[]])] ?_
  conv => whnf
  refine ⟨⟨I, I, ⟨⟨I, I⟩, I, ⟨⟨I, I⟩, I⟩, ⟨I, I⟩, Go.K.c_impl_clone _ (by omega)⟩, I, ⟨I, I⟩, I⟩, ?_⟩
  refine g 1 2 [] ?_
  conv => whnf
  refine ⟨⟨I, ⟨I, I, I, I, I, I, I, I, I, I, I, I⟩, I⟩, ?_⟩
  refine W.ret ?_
  refine EndsW.rt ?_
  conv => whnf
  refine ⟨⟨I, I, I, I, I, I, I, I, I, I, I, I, I⟩, ?_, rfl⟩
  rfl
end Go.K

end

section
set_option linter.unusedVariables false
set_option linter.unusedSimpArgs false
set_option maxHeartbeats 4000000
set_option maxRecDepth 20000
open Go Go.Tm Go.Proofs
namespace Go.K
structure Message where
  kind : Int
  frm : Int
  to : Int
  epoch : Int
  lease : Int
  task : Int
  text : ByteArray
  inputs : List ByteArray
  deriving DecidableEq
abbrev messageT (x : Message) : List T := [.i x.kind, .i x.frm, .i x.to, .i x.epoch, .i x.lease, .i x.task, .s x.text, .slc [false] (x.inputs.map strT)]
abbrev messageR (x : Message) : V := .agg [.t (.i x.kind), .t (.i x.frm), .t (.i x.to), .t (.i x.epoch), .t (.i x.lease), .t (.i x.task), .t (.s x.text), .t (.slc [false] (x.inputs.map strT))]
abbrev messageO (x : Message) : V := .agg [.t (.i x.kind), .t (.i x.frm), .t (.i x.to), .t (.i x.epoch), .t (.i x.lease), .t (.i x.task), .t (.s x.text), .own [false] (x.inputs.map strT)]
abbrev messageK : List Bool := [false, false, false, false, false, false, false, true]
def messageSz (x : Message) : Int := (x.text.size : Int) + ((x.inputs.length : Int) + totS x.inputs)
theorem messageSz_nn (x : Message) : 0 ≤ messageSz x := by
  have hn0 := totS_nn x.inputs
  simp only [messageSz]; omega
def messageWf (x : Message) : Prop := x.text.size ≤ 9223372036854775807 ∧ x.inputs.length ≤ 9223372036854775807 ∧ (∀ s ∈ x.inputs, s.size ≤ 9223372036854775807)
def msgOk (m : Message) : Prop := (1 ≤ m.epoch ∧ m.epoch ≤ 300) ∧
  ((m.kind = 1 ∧ m.frm = 0 ∧ (1 ≤ m.to ∧ m.to ≤ 8) ∧ (1 ≤ m.lease ∧ m.lease ≤ 300000000) ∧ (0 ≤ m.task ∧ m.task ≤ 39) ∧ m.text = emp ∧ eights m.inputs) ∨
   (m.kind = 2 ∧ m.to = 0 ∧ (1 ≤ m.frm ∧ m.frm ≤ 8) ∧ (1 ≤ m.lease ∧ m.lease ≤ 300000000) ∧ m.task = 0 ∧ m.text = emp ∧ (m.inputs.length : Int) = 0) ∨
   (m.kind = 3 ∧ m.to = 0 ∧ (1 ≤ m.frm ∧ m.frm ≤ 8) ∧ (1 ≤ m.lease ∧ m.lease ≤ 300000000) ∧ (0 ≤ m.task ∧ m.task ≤ 39) ∧ (m.text.size : Int) = 8 ∧ (m.inputs.length : Int) = 0) ∨
   (m.kind = 4 ∧ m.frm = 0 ∧ (1 ≤ m.to ∧ m.to ≤ 8) ∧ (1 ≤ m.lease ∧ m.lease ≤ 300000000) ∧ m.task = 0 ∧ m.text = emp ∧ (m.inputs.length : Int) = 0) ∨
   (m.kind = 5 ∧ m.to = 0 ∧ (1 ≤ m.frm ∧ m.frm ≤ 8) ∧ m.lease = 0 ∧ m.task = 0 ∧ m.text = emp ∧ (m.inputs.length : Int) = 0))
instance (m : Message) : Decidable (msgOk m) := by unfold msgOk; infer_instance
theorem c_impl_Message_valid (m : Message) (hl : m.inputs.length ≤ 9223372036854775806) : F n_impl_Message_valid [.val (messageR m)] (.b (decide (msgOk m))) [[]] := by
  refine i_impl_Message_valid ?_
  conv => whnf
  refine g 0 1 [] ?_
  conv => whnf
  refine ⟨⟨⟨I, I, I, I, I, I, I, I, I⟩, I, I⟩, ?_⟩
  refine g 0 0 [] ?_
  conv => whnf
  refine ⟨⟨I, I, I, I, I, I⟩, ?_⟩
  refine W.sq ?_
  refine g 0 0 [] ?_
  conv => whnf
  refine ⟨⟨I, I, I⟩, ?_⟩
  refine W.blk ?_
  refine g 13 14 [] ?_
  conv => whnf
  refine ⟨⟨I, I, I⟩, ?_⟩
  refine W.cn ?_
  conv => whnf
  refine ⟨fun h1 => ?_, fun h1 => ?_⟩
  replace h1 := dt h1
  refine rg [] ?_
  conv => whnf
  refine ⟨⟨I, I, I, I, I⟩, ?_⟩
  refine gd 11 26 [[], [], [], [], [], []] ?_
  conv => whnf
  refine ⟨⟨I, I, I, I, I, I, I⟩, by kernel_rfl, ?_⟩
  refine W.sq ?_
  refine g 0 0 [] ?_
  conv => whnf
  refine ⟨⟨I, I⟩, ?_⟩
  refine W.cn ?_
  conv => whnf
  refine ⟨fun _ => ?_, noF (rfl)⟩
  refine rgd [[], [], [], [], [], []] ?_
  conv => whnf
  refine ⟨⟨I, I, I, I, I, I, I⟩, by kernel_rfl, ?_⟩
  refine W.sq ?_
  by_cases h2 : Message.frm m = (0 : Int)
  by_cases h3 : (1 : Int) ≤ Message.to m ∧ Message.to m ≤ (8 : Int)
  refine g 26 43 [.b (false), .b (false), .call (V.b (decide ((1 : Int) ≤ Message.to m ∧ Message.to m ≤ (8 : Int)))) ([[], [], []]), .b (false), .b (false), .b (false), .b (false), .b (false), .call (V.b (decide ((1 : Int) ≤ Message.epoch m ∧ Message.epoch m ≤ (300 : Int)))) ([[], [], []]), .b (false), .b (false)] ?_
  conv => whnf
  refine ⟨⟨I, I, I, ⟨notF (by omega), I⟩, ⟨notF (by omega), ⟨I, I, I, I⟩, I, ⟨⟨I, I⟩, ⟨I, I⟩, ⟨I, I⟩, I⟩, ⟨I, I⟩, Go.K.c_impl_within _ _ _⟩, ⟨notF (by omega), I⟩, notF (by omega), I, ⟨notF (by omega), I⟩, ⟨notF (by omega), I⟩, ⟨notF (by omega), ⟨I, I, I, I⟩, I, ⟨⟨I, I⟩, ⟨I, I⟩, ⟨I, I⟩, I⟩, ⟨I, I⟩, Go.K.c_impl_within _ _ _⟩, ⟨notF (by omega), I⟩, notF (by omega), I⟩, ?_⟩
  refine W.cn ?_
  conv => whnf
  refine ⟨fun h4 => ?_, fun h4 => ?_⟩
  replace h4 := ndt h4
  refine g 8 9 [] ?_
  conv => whnf
  refine ⟨⟨I, I⟩, ?_⟩
  refine W.ret ?_
  refine EndsW.rt ?_
  conv => whnf
  refine ⟨⟨I, I, I⟩, ?_, rfl⟩
  rotate_left 1
  replace h4 := ndf h4
  refine W.skip ?_
  refine W.sq ?_
  by_cases h5 : (1 : Int) ≤ Message.lease m ∧ Message.lease m ≤ (300000000 : Int)
  refine g 43 59 [.b (true), .b (true), .b (true), .call (V.b (decide ((1 : Int) ≤ Message.lease m ∧ Message.lease m ≤ (300000000 : Int)))) ([[], [], []]), .b (true), .b (true), .b (false), .b (false), .b (false), .b (false), .b (false), .b (false), .b (false), .b (false), .b (false)] ?_
  conv => whnf
  refine ⟨⟨I, I, ⟨rfl, I⟩, ⟨rfl, I⟩, ⟨rfl, ⟨I, I, I, I⟩, I, ⟨⟨I, I⟩, ⟨I, I⟩, ⟨I, I⟩, I⟩, ⟨I, I⟩, Go.K.c_impl_within _ _ _⟩, ⟨rfl, I⟩, rfl, I, ⟨notF (by omega), I⟩, ⟨notF (by omega), I⟩, ⟨notF (by omega), I⟩, rfl, rfl, rfl, ⟨notF (by omega), rfl⟩, notF (by omega), I⟩, ?_⟩
  refine W.cn ?_
  conv => whnf
  refine ⟨noT (rfl), fun _ => ?_⟩
  refine W.skip ?_
  refine W.sq ?_
  by_cases h6 : (0 : Int) ≤ Message.task m ∧ Message.task m ≤ (39 : Int)
  refine g 59 75 [.b (true), .b (true), .b (true), .call (V.b (decide ((0 : Int) ≤ Message.task m ∧ Message.task m ≤ (39 : Int)))) ([[], [], []]), .b (true), .b (true), .b (false), .b (false), .b (false), .b (false), .b (false), .b (false), .b (false), .b (false), .b (false)] ?_
  conv => whnf
  refine ⟨⟨I, I, ⟨rfl, I⟩, ⟨rfl, I⟩, ⟨rfl, ⟨I, I, I, I⟩, I, ⟨⟨I, I⟩, ⟨I, I⟩, ⟨I, I⟩, I⟩, ⟨I, I⟩, Go.K.c_impl_within _ _ _⟩, ⟨rfl, I⟩, rfl, I, ⟨notF (by omega), I⟩, ⟨notF (by omega), I⟩, ⟨notF (by omega), I⟩, rfl, rfl, rfl, ⟨notF (by omega), rfl⟩, notF (by omega), I⟩, ?_⟩
  refine W.cn ?_
  conv => whnf
  refine ⟨noT (rfl), fun _ => ?_⟩
  refine W.skip ?_
  refine W.sq ?_
  refine g 10 91 [.b (false), .b (false), .b (false), .b (false), .b (false), .b (false), .b (false), .b (false), .b (true), .b (true), .b (true), .b (false), .b (true), .b (false)] ?_
  conv => whnf
  refine ⟨⟨I, I, rfl, rfl, rfl, rfl, rfl, I, ⟨rfl, I⟩, ⟨rfl, I⟩, ⟨rfl, I⟩, ⟨rfl, I⟩, ⟨rfl, I⟩, ⟨rfl, I⟩, ⟨rfl, rfl⟩, rfl, I⟩, ?_⟩
  refine W.cn ?_
  conv => whnf
  refine ⟨fun h7 => ?_, fun h7 => ?_⟩
  replace h7 := ndt h7
  refine g 7 9 [] ?_
  conv => whnf
  refine ⟨⟨I, I⟩, ?_⟩
  refine W.ret ?_
  refine EndsW.rt ?_
  conv => whnf
  refine ⟨⟨I, I, I⟩, ?_, rfl⟩
  rotate_left 1
  replace h7 := ndf h7
  refine W.skip ?_
  by_cases h8 : eights (Message.inputs m)
  refine g 5 108 [.b (true), .b (true), .b (true), .call (V.b (decide (eights (Message.inputs m)))) ([[]]), .b (true), .b (true), .b (true), .b (true), .b (false), .b (false), .b (false), .b (false), .b (true), .b (true)] ?_
  conv => whnf
  refine ⟨⟨I, I, ⟨rfl, I⟩, ⟨rfl, I⟩, ⟨rfl, ⟨I, I⟩, I, ⟨⟨I, I⟩, I⟩, ⟨I, I⟩, Go.K.c_impl_eights _ (by omega)⟩, rfl, I, decide_eq_true (by omega), decide_eq_true (by omega), decide_eq_true (by omega), I, I, I, I, decide_eq_true (by omega), decide_eq_true (by omega), I, I⟩, ?_⟩
  refine W.ret ?_
  refine EndsW.rt ?_
  conv => whnf
  refine ⟨⟨I, I, I⟩, ?_, rfl⟩
  rotate_left 1
  refine g 5 108 [.b (true), .b (true), .b (true), .call (V.b (decide (eights (Message.inputs m)))) ([[]]), .b (true), .b (false), .b (false), .b (false), .b (false), .b (false), .b (false), .b (false), .b (false), .b (false), .b (false)] ?_
  conv => whnf
  refine ⟨⟨I, I, ⟨rfl, I⟩, ⟨rfl, I⟩, ⟨rfl, ⟨I, I⟩, I, ⟨⟨I, I⟩, I⟩, ⟨I, I⟩, Go.K.c_impl_eights _ (by omega)⟩, rfl, I, ⟨decide_eq_false (by omega), I⟩, ⟨decide_eq_false (by omega), I⟩, ⟨decide_eq_false (by omega), I⟩, rfl, rfl, rfl, rfl, ⟨decide_eq_false (by omega), rfl⟩, decide_eq_false (by omega), I, I⟩, ?_⟩
  refine W.ret ?_
  refine EndsW.rt ?_
  conv => whnf
  refine ⟨⟨I, I, I⟩, ?_, rfl⟩
  rotate_left 1
  refine g 59 75 [.b (true), .b (true), .b (true), .call (V.b (decide ((0 : Int) ≤ Message.task m ∧ Message.task m ≤ (39 : Int)))) ([[], [], []]), .b (true), .b (true), .b (true), .b (true), .b (true), .b (false), .b (false), .b (false), .b (true), .b (true)] ?_
  conv => whnf
  refine ⟨⟨I, I, ⟨rfl, I⟩, ⟨rfl, I⟩, ⟨rfl, ⟨I, I, I, I⟩, I, ⟨⟨I, I⟩, ⟨I, I⟩, ⟨I, I⟩, I⟩, ⟨I, I⟩, Go.K.c_impl_within _ _ _⟩, ⟨rfl, I⟩, rfl, I, notT (by omega), notT (by omega), notT (by omega), I, I, I, notT (by omega), notT (by omega), I⟩, ?_⟩
  refine W.cn ?_
  conv => whnf
  refine ⟨fun _ => ?_, noF (rfl)⟩
  refine g 3 4 [] ?_
  conv => whnf
  refine ⟨⟨I, I⟩, ?_⟩
  refine W.ret ?_
  refine EndsW.rt ?_
  conv => whnf
  refine ⟨⟨I, I, I⟩, ?_, rfl⟩
  rotate_left 1
  refine g 43 59 [.b (true), .b (true), .b (true), .call (V.b (decide ((1 : Int) ≤ Message.lease m ∧ Message.lease m ≤ (300000000 : Int)))) ([[], [], []]), .b (true), .b (true), .b (true), .b (true), .b (true), .b (false), .b (false), .b (false), .b (true), .b (true)] ?_
  conv => whnf
  refine ⟨⟨I, I, ⟨rfl, I⟩, ⟨rfl, I⟩, ⟨rfl, ⟨I, I, I, I⟩, I, ⟨⟨I, I⟩, ⟨I, I⟩, ⟨I, I⟩, I⟩, ⟨I, I⟩, Go.K.c_impl_within _ _ _⟩, ⟨rfl, I⟩, rfl, I, notT (by omega), notT (by omega), notT (by omega), I, I, I, notT (by omega), notT (by omega), I⟩, ?_⟩
  refine W.cn ?_
  conv => whnf
  refine ⟨fun _ => ?_, noF (rfl)⟩
  refine g 3 4 [] ?_
  conv => whnf
  refine ⟨⟨I, I⟩, ?_⟩
  refine W.ret ?_
  refine EndsW.rt ?_
  conv => whnf
  refine ⟨⟨I, I, I⟩, ?_, rfl⟩
  rotate_left 1
  refine g 26 43 [.b (false), .b (false), .call (V.b (decide ((1 : Int) ≤ Message.to m ∧ Message.to m ≤ (8 : Int)))) ([[], [], []]), .b (false), .b (false), .b (true), .b (true), .b (true), .b (true), .b (true)] ?_
  conv => whnf
  refine ⟨⟨I, I, I, ⟨notF (by omega), I⟩, ⟨notF (by omega), ⟨I, I, I, I⟩, I, ⟨⟨I, I⟩, ⟨I, I⟩, ⟨I, I⟩, I⟩, ⟨I, I⟩, Go.K.c_impl_within _ _ _⟩, ⟨notF (by omega), I⟩, notF (by omega), I, notT (by omega), notT (by omega), notT (by omega), notT (by omega), notT (by omega), I⟩, ?_⟩
  refine W.cn ?_
  conv => whnf
  refine ⟨fun _ => ?_, noF (rfl)⟩
  refine g 8 9 [] ?_
  conv => whnf
  refine ⟨⟨I, I⟩, ?_⟩
  refine W.ret ?_
  refine EndsW.rt ?_
  conv => whnf
  refine ⟨⟨I, I, I⟩, ?_, rfl⟩
  rotate_left 1
  refine g 26 43 [.b (true), .b (true), .b (true), .b (true), .b (true), .b (true), .b (true), .b (true), .b (true)] ?_
  conv => whnf
  refine ⟨⟨I, I, I, notT (by omega), notT (by omega), notT (by omega), notT (by omega), I, rfl, rfl, rfl, rfl, rfl, I⟩, ?_⟩
  refine W.cn ?_
  conv => whnf
  refine ⟨fun _ => ?_, noF (rfl)⟩
  refine g 8 9 [] ?_
  conv => whnf
  refine ⟨⟨I, I⟩, ?_⟩
  refine W.ret ?_
  refine EndsW.rt ?_
  conv => whnf
  refine ⟨⟨I, I, I⟩, ?_, rfl⟩
  rotate_left 1
  replace h1 := df h1
  refine g 12 13 [] ?_
  conv => whnf
  refine ⟨⟨I, I, I⟩, ?_⟩
  refine W.cn ?_
  conv => whnf
  refine ⟨fun h2 => ?_, fun h2 => ?_⟩
  replace h2 := dt h2
  refine rg [] ?_
  conv => whnf
  refine ⟨⟨I, I⟩, ?_⟩
  refine gd 11 26 [[], [], [], [], [], []] ?_
  conv => whnf
  refine ⟨⟨I, I, I, I, I, I, I⟩, by kernel_rfl, ?_⟩
  refine W.sq ?_
  refine g 0 0 [] ?_
  conv => whnf
  refine ⟨⟨I, I⟩, ?_⟩
  refine W.cn ?_
  conv => whnf
  refine ⟨noT (rfl), fun _ => ?_⟩
  refine W.skip ?_
  refine W.sq ?_
  by_cases h3 : Message.to m = (0 : Int)
  by_cases h4 : (1 : Int) ≤ Message.frm m ∧ Message.frm m ≤ (8 : Int)
  refine g 26 43 [.b (false), .b (false), .call (V.b (decide ((1 : Int) ≤ Message.frm m ∧ Message.frm m ≤ (8 : Int)))) ([[], [], []]), .b (false), .b (false), .b (false), .b (false), .b (false), .call (V.b (decide ((1 : Int) ≤ Message.epoch m ∧ Message.epoch m ≤ (300 : Int)))) ([[], [], []]), .b (false), .b (false)] ?_
  conv => whnf
  refine ⟨⟨I, I, I, ⟨notF (by omega), I⟩, ⟨notF (by omega), ⟨I, I, I, I⟩, I, ⟨⟨I, I⟩, ⟨I, I⟩, ⟨I, I⟩, I⟩, ⟨I, I⟩, Go.K.c_impl_within _ _ _⟩, ⟨notF (by omega), I⟩, notF (by omega), I, ⟨notF (by omega), I⟩, ⟨notF (by omega), I⟩, ⟨notF (by omega), ⟨I, I, I, I⟩, I, ⟨⟨I, I⟩, ⟨I, I⟩, ⟨I, I⟩, I⟩, ⟨I, I⟩, Go.K.c_impl_within _ _ _⟩, ⟨notF (by omega), I⟩, notF (by omega), I⟩, ?_⟩
  refine W.cn ?_
  conv => whnf
  refine ⟨fun h5 => ?_, fun h5 => ?_⟩
  replace h5 := ndt h5
  refine g 8 9 [] ?_
  conv => whnf
  refine ⟨⟨I, I⟩, ?_⟩
  refine W.ret ?_
  refine EndsW.rt ?_
  conv => whnf
  refine ⟨⟨I, I, I⟩, ?_, rfl⟩
  rotate_left 1
  replace h5 := ndf h5
  refine W.skip ?_
  refine W.sq ?_
  by_cases h6 : (1 : Int) ≤ Message.lease m ∧ Message.lease m ≤ (300000000 : Int)
  refine g 43 59 [.b (true), .b (true), .b (true), .call (V.b (decide ((1 : Int) ≤ Message.lease m ∧ Message.lease m ≤ (300000000 : Int)))) ([[], [], []]), .b (true), .b (true), .b (false), .b (false), .b (false), .b (false), .b (false), .b (false), .b (false), .b (false), .b (false)] ?_
  conv => whnf
  refine ⟨⟨I, I, ⟨rfl, I⟩, ⟨rfl, I⟩, ⟨rfl, ⟨I, I, I, I⟩, I, ⟨⟨I, I⟩, ⟨I, I⟩, ⟨I, I⟩, I⟩, ⟨I, I⟩, Go.K.c_impl_within _ _ _⟩, ⟨rfl, I⟩, rfl, I, ⟨notF (by omega), I⟩, ⟨notF (by omega), I⟩, ⟨notF (by omega), I⟩, rfl, rfl, rfl, ⟨notF (by omega), rfl⟩, notF (by omega), I⟩, ?_⟩
  refine W.cn ?_
  conv => whnf
  refine ⟨noT (rfl), fun _ => ?_⟩
  refine W.skip ?_
  refine W.sq ?_
  refine g 59 75 [.b (false), .b (false), .b (false), .b (false), .b (false), .b (false), .b (false), .b (false), .b (true), .b (true), .b (true), .b (false), .b (true), .b (false)] ?_
  conv => whnf
  refine ⟨⟨I, I, rfl, rfl, rfl, rfl, rfl, I, ⟨rfl, I⟩, ⟨rfl, I⟩, ⟨rfl, I⟩, ⟨rfl, I⟩, ⟨rfl, I⟩, ⟨rfl, I⟩, ⟨rfl, rfl⟩, rfl, I⟩, ?_⟩
  refine W.cn ?_
  conv => whnf
  refine ⟨fun h7 => ?_, fun h7 => ?_⟩
  replace h7 := ndt h7
  refine g 3 4 [] ?_
  conv => whnf
  refine ⟨⟨I, I⟩, ?_⟩
  refine W.ret ?_
  refine EndsW.rt ?_
  conv => whnf
  refine ⟨⟨I, I, I⟩, ?_, rfl⟩
  rotate_left 1
  replace h7 := ndf h7
  refine W.skip ?_
  refine W.sq ?_
  refine g 10 91 [.b (false), .b (false), .b (false), .b (false), .b (false), .b (false), .b (false), .b (false), .b (true), .b (true), .b (true), .b (false), .b (true), .b (false)] ?_
  conv => whnf
  refine ⟨⟨I, I, rfl, rfl, rfl, rfl, rfl, I, ⟨rfl, I⟩, ⟨rfl, I⟩, ⟨rfl, I⟩, ⟨rfl, I⟩, ⟨rfl, I⟩, ⟨rfl, I⟩, ⟨rfl, rfl⟩, rfl, I⟩, ?_⟩
  refine W.cn ?_
  conv => whnf
  refine ⟨fun h8 => ?_, fun h8 => ?_⟩
  replace h8 := ndt h8
  refine g 7 9 [] ?_
  conv => whnf
  refine ⟨⟨I, I⟩, ?_⟩
  refine W.ret ?_
  refine EndsW.rt ?_
  conv => whnf
  refine ⟨⟨I, I, I⟩, ?_, rfl⟩
  rotate_left 1
  replace h8 := ndf h8
  refine W.skip ?_
  refine g 5 108 [.b (false), .b (false), .b (false), .b (false), .b (false), .b (false), .b (false), .b (true), .b (true), .b (true), .b (true), .b (false), .b (true), .b (false)] ?_
  conv => whnf
  refine ⟨⟨I, I, rfl, rfl, rfl, rfl, I, ⟨rfl, I⟩, ⟨rfl, I⟩, ⟨rfl, I⟩, ⟨rfl, I⟩, ⟨rfl, I⟩, ⟨rfl, I⟩, ⟨rfl, I⟩, ⟨rfl, rfl⟩, rfl, I, I⟩, ?_⟩
  refine W.ret ?_
  refine EndsW.rt ?_
  conv => whnf
  refine ⟨⟨I, I, I⟩, ?_, rfl⟩
  rotate_left 1
  refine g 43 59 [.b (true), .b (true), .b (true), .call (V.b (decide ((1 : Int) ≤ Message.lease m ∧ Message.lease m ≤ (300000000 : Int)))) ([[], [], []]), .b (true), .b (true), .b (true), .b (true), .b (true), .b (false), .b (false), .b (false), .b (true), .b (true)] ?_
  conv => whnf
  refine ⟨⟨I, I, ⟨rfl, I⟩, ⟨rfl, I⟩, ⟨rfl, ⟨I, I, I, I⟩, I, ⟨⟨I, I⟩, ⟨I, I⟩, ⟨I, I⟩, I⟩, ⟨I, I⟩, Go.K.c_impl_within _ _ _⟩, ⟨rfl, I⟩, rfl, I, notT (by omega), notT (by omega), notT (by omega), I, I, I, notT (by omega), notT (by omega), I⟩, ?_⟩
  refine W.cn ?_
  conv => whnf
  refine ⟨fun _ => ?_, noF (rfl)⟩
  refine g 3 4 [] ?_
  conv => whnf
  refine ⟨⟨I, I⟩, ?_⟩
  refine W.ret ?_
  refine EndsW.rt ?_
  conv => whnf
  refine ⟨⟨I, I, I⟩, ?_, rfl⟩
  rotate_left 1
  refine g 26 43 [.b (false), .b (false), .call (V.b (decide ((1 : Int) ≤ Message.frm m ∧ Message.frm m ≤ (8 : Int)))) ([[], [], []]), .b (false), .b (false), .b (true), .b (true), .b (true), .b (true), .b (true)] ?_
  conv => whnf
  refine ⟨⟨I, I, I, ⟨notF (by omega), I⟩, ⟨notF (by omega), ⟨I, I, I, I⟩, I, ⟨⟨I, I⟩, ⟨I, I⟩, ⟨I, I⟩, I⟩, ⟨I, I⟩, Go.K.c_impl_within _ _ _⟩, ⟨notF (by omega), I⟩, notF (by omega), I, notT (by omega), notT (by omega), notT (by omega), notT (by omega), notT (by omega), I⟩, ?_⟩
  refine W.cn ?_
  conv => whnf
  refine ⟨fun _ => ?_, noF (rfl)⟩
  refine g 8 9 [] ?_
  conv => whnf
  refine ⟨⟨I, I⟩, ?_⟩
  refine W.ret ?_
  refine EndsW.rt ?_
  conv => whnf
  refine ⟨⟨I, I, I⟩, ?_, rfl⟩
  rotate_left 1
  refine g 26 43 [.b (true), .b (true), .b (true), .b (true), .b (true), .b (true), .b (true), .b (true), .b (true)] ?_
  conv => whnf
  refine ⟨⟨I, I, I, notT (by omega), notT (by omega), notT (by omega), notT (by omega), I, rfl, rfl, rfl, rfl, rfl, I⟩, ?_⟩
  refine W.cn ?_
  conv => whnf
  refine ⟨fun _ => ?_, noF (rfl)⟩
  refine g 8 9 [] ?_
  conv => whnf
  refine ⟨⟨I, I⟩, ?_⟩
  refine W.ret ?_
  refine EndsW.rt ?_
  conv => whnf
  refine ⟨⟨I, I, I⟩, ?_, rfl⟩
  rotate_left 1
  replace h2 := df h2
  refine g 14 16 [] ?_
  conv => whnf
  refine ⟨⟨I, I, I⟩, ?_⟩
  refine W.cn ?_
  conv => whnf
  refine ⟨fun h3 => ?_, fun h3 => ?_⟩
  replace h3 := dt h3
  refine rg [] ?_
  conv => whnf
  refine ⟨⟨I, I, I, I⟩, ?_⟩
  refine gd 11 26 [[], [], [], [], [], []] ?_
  conv => whnf
  refine ⟨⟨I, I, I, I, I, I, I⟩, by kernel_rfl, ?_⟩
  refine W.sq ?_
  refine g 0 0 [] ?_
  conv => whnf
  refine ⟨⟨I, I⟩, ?_⟩
  refine W.cn ?_
  conv => whnf
  refine ⟨noT (rfl), fun _ => ?_⟩
  refine W.skip ?_
  refine W.sq ?_
  by_cases h4 : Message.to m = (0 : Int)
  by_cases h5 : (1 : Int) ≤ Message.frm m ∧ Message.frm m ≤ (8 : Int)
  refine g 26 43 [.b (false), .b (false), .call (V.b (decide ((1 : Int) ≤ Message.frm m ∧ Message.frm m ≤ (8 : Int)))) ([[], [], []]), .b (false), .b (false), .b (false), .b (false), .b (false), .call (V.b (decide ((1 : Int) ≤ Message.epoch m ∧ Message.epoch m ≤ (300 : Int)))) ([[], [], []]), .b (false), .b (false)] ?_
  conv => whnf
  refine ⟨⟨I, I, I, ⟨notF (by omega), I⟩, ⟨notF (by omega), ⟨I, I, I, I⟩, I, ⟨⟨I, I⟩, ⟨I, I⟩, ⟨I, I⟩, I⟩, ⟨I, I⟩, Go.K.c_impl_within _ _ _⟩, ⟨notF (by omega), I⟩, notF (by omega), I, ⟨notF (by omega), I⟩, ⟨notF (by omega), I⟩, ⟨notF (by omega), ⟨I, I, I, I⟩, I, ⟨⟨I, I⟩, ⟨I, I⟩, ⟨I, I⟩, I⟩, ⟨I, I⟩, Go.K.c_impl_within _ _ _⟩, ⟨notF (by omega), I⟩, notF (by omega), I⟩, ?_⟩
  refine W.cn ?_
  conv => whnf
  refine ⟨fun h6 => ?_, fun h6 => ?_⟩
  replace h6 := ndt h6
  refine g 8 9 [] ?_
  conv => whnf
  refine ⟨⟨I, I⟩, ?_⟩
  refine W.ret ?_
  refine EndsW.rt ?_
  conv => whnf
  refine ⟨⟨I, I, I⟩, ?_, rfl⟩
  rotate_left 1
  replace h6 := ndf h6
  refine W.skip ?_
  refine W.sq ?_
  by_cases h7 : (1 : Int) ≤ Message.lease m ∧ Message.lease m ≤ (300000000 : Int)
  refine g 43 59 [.b (true), .b (true), .b (true), .call (V.b (decide ((1 : Int) ≤ Message.lease m ∧ Message.lease m ≤ (300000000 : Int)))) ([[], [], []]), .b (true), .b (true), .b (false), .b (false), .b (false), .b (false), .b (false), .b (false), .b (false), .b (false), .b (false)] ?_
  conv => whnf
  refine ⟨⟨I, I, ⟨rfl, I⟩, ⟨rfl, I⟩, ⟨rfl, ⟨I, I, I, I⟩, I, ⟨⟨I, I⟩, ⟨I, I⟩, ⟨I, I⟩, I⟩, ⟨I, I⟩, Go.K.c_impl_within _ _ _⟩, ⟨rfl, I⟩, rfl, I, ⟨notF (by omega), I⟩, ⟨notF (by omega), I⟩, ⟨notF (by omega), I⟩, rfl, rfl, rfl, ⟨notF (by omega), rfl⟩, notF (by omega), I⟩, ?_⟩
  refine W.cn ?_
  conv => whnf
  refine ⟨noT (rfl), fun _ => ?_⟩
  refine W.skip ?_
  refine W.sq ?_
  by_cases h8 : (0 : Int) ≤ Message.task m ∧ Message.task m ≤ (39 : Int)
  refine g 59 75 [.b (true), .b (true), .b (true), .call (V.b (decide ((0 : Int) ≤ Message.task m ∧ Message.task m ≤ (39 : Int)))) ([[], [], []]), .b (true), .b (true), .b (false), .b (false), .b (false), .b (false), .b (false), .b (false), .b (false), .b (false), .b (false)] ?_
  conv => whnf
  refine ⟨⟨I, I, ⟨rfl, I⟩, ⟨rfl, I⟩, ⟨rfl, ⟨I, I, I, I⟩, I, ⟨⟨I, I⟩, ⟨I, I⟩, ⟨I, I⟩, I⟩, ⟨I, I⟩, Go.K.c_impl_within _ _ _⟩, ⟨rfl, I⟩, rfl, I, ⟨notF (by omega), I⟩, ⟨notF (by omega), I⟩, ⟨notF (by omega), I⟩, rfl, rfl, rfl, ⟨notF (by omega), rfl⟩, notF (by omega), I⟩, ?_⟩
  refine W.cn ?_
  conv => whnf
  refine ⟨noT (rfl), fun _ => ?_⟩
  refine W.skip ?_
  refine W.sq ?_
  by_cases h9 : (↑(ByteArray.size (Message.text m)) : Int) = (8 : Int)
  refine g 10 91 [.b (true), .b (true), .b (true), .b (true), .b (true), .b (false), .b (false), .b (false), .b (false), .b (false), .b (false), .b (false), .b (false), .b (false)] ?_
  conv => whnf
  refine ⟨⟨I, I, ⟨rfl, I⟩, ⟨rfl, I⟩, ⟨rfl, I⟩, ⟨rfl, I⟩, rfl, I, ⟨notF (by omega), I⟩, ⟨notF (by omega), I⟩, ⟨notF (by omega), I⟩, rfl, rfl, rfl, ⟨notF (by omega), rfl⟩, notF (by omega), I⟩, ?_⟩
  refine W.cn ?_
  conv => whnf
  refine ⟨noT (rfl), fun _ => ?_⟩
  refine W.skip ?_
  refine g 5 108 [.b (false), .b (false), .b (false), .b (false), .b (false), .b (false), .b (false), .b (true), .b (true), .b (true), .b (true), .b (false), .b (true), .b (false)] ?_
  conv => whnf
  refine ⟨⟨I, I, rfl, rfl, rfl, rfl, I, ⟨rfl, I⟩, ⟨rfl, I⟩, ⟨rfl, I⟩, ⟨rfl, I⟩, ⟨rfl, I⟩, ⟨rfl, I⟩, ⟨rfl, I⟩, ⟨rfl, rfl⟩, rfl, I, I⟩, ?_⟩
  refine W.ret ?_
  refine EndsW.rt ?_
  conv => whnf
  refine ⟨⟨I, I, I⟩, ?_, rfl⟩
  rotate_left 1
  refine g 10 91 [.b (true), .b (true), .b (true), .b (true), .b (true), .b (true), .b (true), .b (true), .b (false), .b (false), .b (false), .b (true), .b (true)] ?_
  conv => whnf
  refine ⟨⟨I, I, ⟨rfl, I⟩, ⟨rfl, I⟩, ⟨rfl, I⟩, ⟨rfl, I⟩, rfl, I, notT (by omega), notT (by omega), notT (by omega), I, I, I, notT (by omega), notT (by omega), I⟩, ?_⟩
  refine W.cn ?_
  conv => whnf
  refine ⟨fun _ => ?_, noF (rfl)⟩
  refine g 7 9 [] ?_
  conv => whnf
  refine ⟨⟨I, I⟩, ?_⟩
  refine W.ret ?_
  refine EndsW.rt ?_
  conv => whnf
  refine ⟨⟨I, I, I⟩, ?_, rfl⟩
  rotate_left 1
  refine g 59 75 [.b (true), .b (true), .b (true), .call (V.b (decide ((0 : Int) ≤ Message.task m ∧ Message.task m ≤ (39 : Int)))) ([[], [], []]), .b (true), .b (true), .b (true), .b (true), .b (true), .b (false), .b (false), .b (false), .b (true), .b (true)] ?_
  conv => whnf
  refine ⟨⟨I, I, ⟨rfl, I⟩, ⟨rfl, I⟩, ⟨rfl, ⟨I, I, I, I⟩, I, ⟨⟨I, I⟩, ⟨I, I⟩, ⟨I, I⟩, I⟩, ⟨I, I⟩, Go.K.c_impl_within _ _ _⟩, ⟨rfl, I⟩, rfl, I, notT (by omega), notT (by omega), notT (by omega), I, I, I, notT (by omega), notT (by omega), I⟩, ?_⟩
  refine W.cn ?_
  conv => whnf
  refine ⟨fun _ => ?_, noF (rfl)⟩
  refine g 3 4 [] ?_
  conv => whnf
  refine ⟨⟨I, I⟩, ?_⟩
  refine W.ret ?_
  refine EndsW.rt ?_
  conv => whnf
  refine ⟨⟨I, I, I⟩, ?_, rfl⟩
  rotate_left 1
  refine g 43 59 [.b (true), .b (true), .b (true), .call (V.b (decide ((1 : Int) ≤ Message.lease m ∧ Message.lease m ≤ (300000000 : Int)))) ([[], [], []]), .b (true), .b (true), .b (true), .b (true), .b (true), .b (false), .b (false), .b (false), .b (true), .b (true)] ?_
  conv => whnf
  refine ⟨⟨I, I, ⟨rfl, I⟩, ⟨rfl, I⟩, ⟨rfl, ⟨I, I, I, I⟩, I, ⟨⟨I, I⟩, ⟨I, I⟩, ⟨I, I⟩, I⟩, ⟨I, I⟩, Go.K.c_impl_within _ _ _⟩, ⟨rfl, I⟩, rfl, I, notT (by omega), notT (by omega), notT (by omega), I, I, I, notT (by omega), notT (by omega), I⟩, ?_⟩
  refine W.cn ?_
  conv => whnf
  refine ⟨fun _ => ?_, noF (rfl)⟩
  refine g 3 4 [] ?_
  conv => whnf
  refine ⟨⟨I, I⟩, ?_⟩
  refine W.ret ?_
  refine EndsW.rt ?_
  conv => whnf
  refine ⟨⟨I, I, I⟩, ?_, rfl⟩
  rotate_left 1
  refine g 26 43 [.b (false), .b (false), .call (V.b (decide ((1 : Int) ≤ Message.frm m ∧ Message.frm m ≤ (8 : Int)))) ([[], [], []]), .b (false), .b (false), .b (true), .b (true), .b (true), .b (true), .b (true)] ?_
  conv => whnf
  refine ⟨⟨I, I, I, ⟨notF (by omega), I⟩, ⟨notF (by omega), ⟨I, I, I, I⟩, I, ⟨⟨I, I⟩, ⟨I, I⟩, ⟨I, I⟩, I⟩, ⟨I, I⟩, Go.K.c_impl_within _ _ _⟩, ⟨notF (by omega), I⟩, notF (by omega), I, notT (by omega), notT (by omega), notT (by omega), notT (by omega), notT (by omega), I⟩, ?_⟩
  refine W.cn ?_
  conv => whnf
  refine ⟨fun _ => ?_, noF (rfl)⟩
  refine g 8 9 [] ?_
  conv => whnf
  refine ⟨⟨I, I⟩, ?_⟩
  refine W.ret ?_
  refine EndsW.rt ?_
  conv => whnf
  refine ⟨⟨I, I, I⟩, ?_, rfl⟩
  rotate_left 1
  refine g 26 43 [.b (true), .b (true), .b (true), .b (true), .b (true), .b (true), .b (true), .b (true), .b (true)] ?_
  conv => whnf
  refine ⟨⟨I, I, I, notT (by omega), notT (by omega), notT (by omega), notT (by omega), I, rfl, rfl, rfl, rfl, rfl, I⟩, ?_⟩
  refine W.cn ?_
  conv => whnf
  refine ⟨fun _ => ?_, noF (rfl)⟩
  refine g 8 9 [] ?_
  conv => whnf
  refine ⟨⟨I, I⟩, ?_⟩
  refine W.ret ?_
  refine EndsW.rt ?_
  conv => whnf
  refine ⟨⟨I, I, I⟩, ?_, rfl⟩
  rotate_left 1
  replace h3 := df h3
  refine g 16 18 [] ?_
  conv => whnf
  refine ⟨⟨I, I, I⟩, ?_⟩
  refine W.cn ?_
  conv => whnf
  refine ⟨fun h4 => ?_, fun h4 => ?_⟩
  replace h4 := dt h4
  refine rg [] ?_
  conv => whnf
  refine ⟨⟨I, I, I⟩, ?_⟩
  refine gd 11 26 [[], [], [], [], [], []] ?_
  conv => whnf
  refine ⟨⟨I, I, I, I, I, I, I⟩, by kernel_rfl, ?_⟩
  refine W.sq ?_
  refine g 0 0 [] ?_
  conv => whnf
  refine ⟨⟨I, I⟩, ?_⟩
  refine W.cn ?_
  conv => whnf
  refine ⟨fun _ => ?_, noF (rfl)⟩
  refine rgd [[], [], [], [], [], []] ?_
  conv => whnf
  refine ⟨⟨I, I, I, I, I, I, I⟩, by kernel_rfl, ?_⟩
  refine W.sq ?_
  by_cases h5 : Message.frm m = (0 : Int)
  by_cases h6 : (1 : Int) ≤ Message.to m ∧ Message.to m ≤ (8 : Int)
  refine g 26 43 [.b (false), .b (false), .call (V.b (decide ((1 : Int) ≤ Message.to m ∧ Message.to m ≤ (8 : Int)))) ([[], [], []]), .b (false), .b (false), .b (false), .b (false), .b (false), .call (V.b (decide ((1 : Int) ≤ Message.epoch m ∧ Message.epoch m ≤ (300 : Int)))) ([[], [], []]), .b (false), .b (false)] ?_
  conv => whnf
  refine ⟨⟨I, I, I, ⟨notF (by omega), I⟩, ⟨notF (by omega), ⟨I, I, I, I⟩, I, ⟨⟨I, I⟩, ⟨I, I⟩, ⟨I, I⟩, I⟩, ⟨I, I⟩, Go.K.c_impl_within _ _ _⟩, ⟨notF (by omega), I⟩, notF (by omega), I, ⟨notF (by omega), I⟩, ⟨notF (by omega), I⟩, ⟨notF (by omega), ⟨I, I, I, I⟩, I, ⟨⟨I, I⟩, ⟨I, I⟩, ⟨I, I⟩, I⟩, ⟨I, I⟩, Go.K.c_impl_within _ _ _⟩, ⟨notF (by omega), I⟩, notF (by omega), I⟩, ?_⟩
  refine W.cn ?_
  conv => whnf
  refine ⟨fun h7 => ?_, fun h7 => ?_⟩
  replace h7 := ndt h7
  refine g 8 9 [] ?_
  conv => whnf
  refine ⟨⟨I, I⟩, ?_⟩
  refine W.ret ?_
  refine EndsW.rt ?_
  conv => whnf
  refine ⟨⟨I, I, I⟩, ?_, rfl⟩
  rotate_left 1
  replace h7 := ndf h7
  refine W.skip ?_
  refine W.sq ?_
  by_cases h8 : (1 : Int) ≤ Message.lease m ∧ Message.lease m ≤ (300000000 : Int)
  refine g 43 59 [.b (true), .b (true), .b (true), .call (V.b (decide ((1 : Int) ≤ Message.lease m ∧ Message.lease m ≤ (300000000 : Int)))) ([[], [], []]), .b (true), .b (true), .b (false), .b (false), .b (false), .b (false), .b (false), .b (false), .b (false), .b (false), .b (false)] ?_
  conv => whnf
  refine ⟨⟨I, I, ⟨rfl, I⟩, ⟨rfl, I⟩, ⟨rfl, ⟨I, I, I, I⟩, I, ⟨⟨I, I⟩, ⟨I, I⟩, ⟨I, I⟩, I⟩, ⟨I, I⟩, Go.K.c_impl_within _ _ _⟩, ⟨rfl, I⟩, rfl, I, ⟨notF (by omega), I⟩, ⟨notF (by omega), I⟩, ⟨notF (by omega), I⟩, rfl, rfl, rfl, ⟨notF (by omega), rfl⟩, notF (by omega), I⟩, ?_⟩
  refine W.cn ?_
  conv => whnf
  refine ⟨noT (rfl), fun _ => ?_⟩
  refine W.skip ?_
  refine W.sq ?_
  refine g 59 75 [.b (false), .b (false), .b (false), .b (false), .b (false), .b (false), .b (false), .b (false), .b (true), .b (true), .b (true), .b (false), .b (true), .b (false)] ?_
  conv => whnf
  refine ⟨⟨I, I, rfl, rfl, rfl, rfl, rfl, I, ⟨rfl, I⟩, ⟨rfl, I⟩, ⟨rfl, I⟩, ⟨rfl, I⟩, ⟨rfl, I⟩, ⟨rfl, I⟩, ⟨rfl, rfl⟩, rfl, I⟩, ?_⟩
  refine W.cn ?_
  conv => whnf
  refine ⟨fun h9 => ?_, fun h9 => ?_⟩
  replace h9 := ndt h9
  refine g 3 4 [] ?_
  conv => whnf
  refine ⟨⟨I, I⟩, ?_⟩
  refine W.ret ?_
  refine EndsW.rt ?_
  conv => whnf
  refine ⟨⟨I, I, I⟩, ?_, rfl⟩
  rotate_left 1
  replace h9 := ndf h9
  refine W.skip ?_
  refine W.sq ?_
  refine g 10 91 [.b (false), .b (false), .b (false), .b (false), .b (false), .b (false), .b (false), .b (false), .b (true), .b (true), .b (true), .b (false), .b (true), .b (false)] ?_
  conv => whnf
  refine ⟨⟨I, I, rfl, rfl, rfl, rfl, rfl, I, ⟨rfl, I⟩, ⟨rfl, I⟩, ⟨rfl, I⟩, ⟨rfl, I⟩, ⟨rfl, I⟩, ⟨rfl, I⟩, ⟨rfl, rfl⟩, rfl, I⟩, ?_⟩
  refine W.cn ?_
  conv => whnf
  refine ⟨fun h10 => ?_, fun h10 => ?_⟩
  replace h10 := ndt h10
  refine g 7 9 [] ?_
  conv => whnf
  refine ⟨⟨I, I⟩, ?_⟩
  refine W.ret ?_
  refine EndsW.rt ?_
  conv => whnf
  refine ⟨⟨I, I, I⟩, ?_, rfl⟩
  rotate_left 1
  replace h10 := ndf h10
  refine W.skip ?_
  refine g 5 108 [.b (false), .b (false), .b (false), .b (false), .b (false), .b (false), .b (false), .b (true), .b (true), .b (true), .b (true), .b (false), .b (true), .b (false)] ?_
  conv => whnf
  refine ⟨⟨I, I, rfl, rfl, rfl, rfl, I, ⟨rfl, I⟩, ⟨rfl, I⟩, ⟨rfl, I⟩, ⟨rfl, I⟩, ⟨rfl, I⟩, ⟨rfl, I⟩, ⟨rfl, I⟩, ⟨rfl, rfl⟩, rfl, I, I⟩, ?_⟩
  refine W.ret ?_
  refine EndsW.rt ?_
  conv => whnf
  refine ⟨⟨I, I, I⟩, ?_, rfl⟩
  rotate_left 1
  refine g 43 59 [.b (true), .b (true), .b (true), .call (V.b (decide ((1 : Int) ≤ Message.lease m ∧ Message.lease m ≤ (300000000 : Int)))) ([[], [], []]), .b (true), .b (true), .b (true), .b (true), .b (true), .b (false), .b (false), .b (false), .b (true), .b (true)] ?_
  conv => whnf
  refine ⟨⟨I, I, ⟨rfl, I⟩, ⟨rfl, I⟩, ⟨rfl, ⟨I, I, I, I⟩, I, ⟨⟨I, I⟩, ⟨I, I⟩, ⟨I, I⟩, I⟩, ⟨I, I⟩, Go.K.c_impl_within _ _ _⟩, ⟨rfl, I⟩, rfl, I, notT (by omega), notT (by omega), notT (by omega), I, I, I, notT (by omega), notT (by omega), I⟩, ?_⟩
  refine W.cn ?_
  conv => whnf
  refine ⟨fun _ => ?_, noF (rfl)⟩
  refine g 3 4 [] ?_
  conv => whnf
  refine ⟨⟨I, I⟩, ?_⟩
  refine W.ret ?_
  refine EndsW.rt ?_
  conv => whnf
  refine ⟨⟨I, I, I⟩, ?_, rfl⟩
  rotate_left 1
  refine g 26 43 [.b (false), .b (false), .call (V.b (decide ((1 : Int) ≤ Message.to m ∧ Message.to m ≤ (8 : Int)))) ([[], [], []]), .b (false), .b (false), .b (true), .b (true), .b (true), .b (true), .b (true)] ?_
  conv => whnf
  refine ⟨⟨I, I, I, ⟨notF (by omega), I⟩, ⟨notF (by omega), ⟨I, I, I, I⟩, I, ⟨⟨I, I⟩, ⟨I, I⟩, ⟨I, I⟩, I⟩, ⟨I, I⟩, Go.K.c_impl_within _ _ _⟩, ⟨notF (by omega), I⟩, notF (by omega), I, notT (by omega), notT (by omega), notT (by omega), notT (by omega), notT (by omega), I⟩, ?_⟩
  refine W.cn ?_
  conv => whnf
  refine ⟨fun _ => ?_, noF (rfl)⟩
  refine g 8 9 [] ?_
  conv => whnf
  refine ⟨⟨I, I⟩, ?_⟩
  refine W.ret ?_
  refine EndsW.rt ?_
  conv => whnf
  refine ⟨⟨I, I, I⟩, ?_, rfl⟩
  rotate_left 1
  refine g 26 43 [.b (true), .b (true), .b (true), .b (true), .b (true), .b (true), .b (true), .b (true), .b (true)] ?_
  conv => whnf
  refine ⟨⟨I, I, I, notT (by omega), notT (by omega), notT (by omega), notT (by omega), I, rfl, rfl, rfl, rfl, rfl, I⟩, ?_⟩
  refine W.cn ?_
  conv => whnf
  refine ⟨fun _ => ?_, noF (rfl)⟩
  refine g 8 9 [] ?_
  conv => whnf
  refine ⟨⟨I, I⟩, ?_⟩
  refine W.ret ?_
  refine EndsW.rt ?_
  conv => whnf
  refine ⟨⟨I, I, I⟩, ?_, rfl⟩
  rotate_left 1
  replace h4 := df h4
  refine g 11 20 [] ?_
  conv => whnf
  refine ⟨⟨I, I, I⟩, ?_⟩
  refine W.cn ?_
  conv => whnf
  refine ⟨fun h5 => ?_, fun h5 => ?_⟩
  replace h5 := dt h5
  refine W.skip ?_
  refine gd 20 26 [[], [], [], [], [], []] ?_
  conv => whnf
  refine ⟨⟨I, I, I, I, I, I, I⟩, by kernel_rfl, ?_⟩
  refine W.sq ?_
  refine g 0 0 [] ?_
  conv => whnf
  refine ⟨⟨I, I⟩, ?_⟩
  refine W.cn ?_
  conv => whnf
  refine ⟨noT (rfl), fun _ => ?_⟩
  refine W.skip ?_
  refine W.sq ?_
  by_cases h6 : Message.to m = (0 : Int)
  by_cases h7 : (1 : Int) ≤ Message.frm m ∧ Message.frm m ≤ (8 : Int)
  refine g 26 43 [.b (false), .b (false), .call (V.b (decide ((1 : Int) ≤ Message.frm m ∧ Message.frm m ≤ (8 : Int)))) ([[], [], []]), .b (false), .b (false), .b (false), .b (false), .b (false), .call (V.b (decide ((1 : Int) ≤ Message.epoch m ∧ Message.epoch m ≤ (300 : Int)))) ([[], [], []]), .b (false), .b (false)] ?_
  conv => whnf
  refine ⟨⟨I, I, I, ⟨notF (by omega), I⟩, ⟨notF (by omega), ⟨I, I, I, I⟩, I, ⟨⟨I, I⟩, ⟨I, I⟩, ⟨I, I⟩, I⟩, ⟨I, I⟩, Go.K.c_impl_within _ _ _⟩, ⟨notF (by omega), I⟩, notF (by omega), I, ⟨notF (by omega), I⟩, ⟨notF (by omega), I⟩, ⟨notF (by omega), ⟨I, I, I, I⟩, I, ⟨⟨I, I⟩, ⟨I, I⟩, ⟨I, I⟩, I⟩, ⟨I, I⟩, Go.K.c_impl_within _ _ _⟩, ⟨notF (by omega), I⟩, notF (by omega), I⟩, ?_⟩
  refine W.cn ?_
  conv => whnf
  refine ⟨fun h8 => ?_, fun h8 => ?_⟩
  replace h8 := ndt h8
  refine g 8 9 [] ?_
  conv => whnf
  refine ⟨⟨I, I⟩, ?_⟩
  refine W.ret ?_
  refine EndsW.rt ?_
  conv => whnf
  refine ⟨⟨I, I, I⟩, ?_, rfl⟩
  rotate_left 1
  replace h8 := ndf h8
  refine W.skip ?_
  refine W.sq ?_
  refine g 43 59 [.b (false), .b (false), .b (false), .b (false), .b (false), .b (false), .b (false), .b (false), .b (true), .b (true), .b (true), .b (false), .b (true), .b (false)] ?_
  conv => whnf
  refine ⟨⟨I, I, rfl, rfl, rfl, rfl, rfl, I, ⟨rfl, I⟩, ⟨rfl, I⟩, ⟨rfl, I⟩, ⟨rfl, I⟩, ⟨rfl, I⟩, ⟨rfl, I⟩, ⟨rfl, rfl⟩, rfl, I⟩, ?_⟩
  refine W.cn ?_
  conv => whnf
  refine ⟨fun h9 => ?_, fun h9 => ?_⟩
  replace h9 := ndt h9
  refine g 3 4 [] ?_
  conv => whnf
  refine ⟨⟨I, I⟩, ?_⟩
  refine W.ret ?_
  refine EndsW.rt ?_
  conv => whnf
  refine ⟨⟨I, I, I⟩, ?_, rfl⟩
  rotate_left 1
  replace h9 := ndf h9
  refine W.skip ?_
  refine W.sq ?_
  refine g 59 75 [.b (false), .b (false), .b (false), .b (false), .b (false), .b (false), .b (false), .b (false), .b (true), .b (true), .b (true), .b (false), .b (true), .b (false)] ?_
  conv => whnf
  refine ⟨⟨I, I, rfl, rfl, rfl, rfl, rfl, I, ⟨rfl, I⟩, ⟨rfl, I⟩, ⟨rfl, I⟩, ⟨rfl, I⟩, ⟨rfl, I⟩, ⟨rfl, I⟩, ⟨rfl, rfl⟩, rfl, I⟩, ?_⟩
  refine W.cn ?_
  conv => whnf
  refine ⟨fun h10 => ?_, fun h10 => ?_⟩
  replace h10 := ndt h10
  refine g 3 4 [] ?_
  conv => whnf
  refine ⟨⟨I, I⟩, ?_⟩
  refine W.ret ?_
  refine EndsW.rt ?_
  conv => whnf
  refine ⟨⟨I, I, I⟩, ?_, rfl⟩
  rotate_left 1
  replace h10 := ndf h10
  refine W.skip ?_
  refine W.sq ?_
  refine g 10 91 [.b (false), .b (false), .b (false), .b (false), .b (false), .b (false), .b (false), .b (false), .b (true), .b (true), .b (true), .b (false), .b (true), .b (false)] ?_
  conv => whnf
  refine ⟨⟨I, I, rfl, rfl, rfl, rfl, rfl, I, ⟨rfl, I⟩, ⟨rfl, I⟩, ⟨rfl, I⟩, ⟨rfl, I⟩, ⟨rfl, I⟩, ⟨rfl, I⟩, ⟨rfl, rfl⟩, rfl, I⟩, ?_⟩
  refine W.cn ?_
  conv => whnf
  refine ⟨fun h11 => ?_, fun h11 => ?_⟩
  replace h11 := ndt h11
  refine g 7 9 [] ?_
  conv => whnf
  refine ⟨⟨I, I⟩, ?_⟩
  refine W.ret ?_
  refine EndsW.rt ?_
  conv => whnf
  refine ⟨⟨I, I, I⟩, ?_, rfl⟩
  rotate_left 1
  replace h11 := ndf h11
  refine W.skip ?_
  refine g 5 108 [.b (false), .b (false), .b (false), .b (false), .b (false), .b (false), .b (false), .b (true), .b (true), .b (true), .b (true), .b (false), .b (true), .b (false)] ?_
  conv => whnf
  refine ⟨⟨I, I, rfl, rfl, rfl, rfl, I, ⟨rfl, I⟩, ⟨rfl, I⟩, ⟨rfl, I⟩, ⟨rfl, I⟩, ⟨rfl, I⟩, ⟨rfl, I⟩, ⟨rfl, I⟩, ⟨rfl, rfl⟩, rfl, I, I⟩, ?_⟩
  refine W.ret ?_
  refine EndsW.rt ?_
  conv => whnf
  refine ⟨⟨I, I, I⟩, ?_, rfl⟩
  rotate_left 1
  refine g 26 43 [.b (false), .b (false), .call (V.b (decide ((1 : Int) ≤ Message.frm m ∧ Message.frm m ≤ (8 : Int)))) ([[], [], []]), .b (false), .b (false), .b (true), .b (true), .b (true), .b (true), .b (true)] ?_
  conv => whnf
  refine ⟨⟨I, I, I, ⟨notF (by omega), I⟩, ⟨notF (by omega), ⟨I, I, I, I⟩, I, ⟨⟨I, I⟩, ⟨I, I⟩, ⟨I, I⟩, I⟩, ⟨I, I⟩, Go.K.c_impl_within _ _ _⟩, ⟨notF (by omega), I⟩, notF (by omega), I, notT (by omega), notT (by omega), notT (by omega), notT (by omega), notT (by omega), I⟩, ?_⟩
  refine W.cn ?_
  conv => whnf
  refine ⟨fun _ => ?_, noF (rfl)⟩
  refine g 8 9 [] ?_
  conv => whnf
  refine ⟨⟨I, I⟩, ?_⟩
  refine W.ret ?_
  refine EndsW.rt ?_
  conv => whnf
  refine ⟨⟨I, I, I⟩, ?_, rfl⟩
  rotate_left 1
  refine g 26 43 [.b (true), .b (true), .b (true), .b (true), .b (true), .b (true), .b (true), .b (true), .b (true)] ?_
  conv => whnf
  refine ⟨⟨I, I, I, notT (by omega), notT (by omega), notT (by omega), notT (by omega), I, rfl, rfl, rfl, rfl, rfl, I⟩, ?_⟩
  refine W.cn ?_
  conv => whnf
  refine ⟨fun _ => ?_, noF (rfl)⟩
  refine g 8 9 [] ?_
  conv => whnf
  refine ⟨⟨I, I⟩, ?_⟩
  refine W.ret ?_
  refine EndsW.rt ?_
  conv => whnf
  refine ⟨⟨I, I, I⟩, ?_, rfl⟩
  rotate_left 1
  replace h5 := df h5
  refine g 20 22 [] ?_
  conv => whnf
  refine ⟨⟨I, I⟩, ?_⟩
  refine W.ret ?_
  refine EndsW.rt ?_
  conv => whnf
  refine ⟨⟨I, I, I⟩, ?_, rfl⟩
  rotate_left 1
  all_goals (try simp only [List.length_map, decide_eq_true_eq, Bool.not_eq_true, Bool.not_eq_true', decide_eq_false_iff_not] at *)
  all_goals first
    | exact vbf (by unfold msgOk; grind)
    | exact vbt (by unfold msgOk; grind)
    | exact vbd (by unfold msgOk; grind)
theorem tup5 {a b c d e a' b' c' d' e' : Bool} (h1 : a = a') (h2 : b = b') (h3 : c = c') (h4 : d = d') (h5 : e = e') : V.tup [V.t (T.v (Value.bool a)), V.t (T.v (Value.bool b)), V.t (T.v (Value.bool c)), V.t (T.v (Value.bool d)), V.t (T.v (Value.bool e))] = V.tup [.b a', .b b', .b c', .b d', .b e'] := by subst h1; subst h2; subst h3; subst h4; subst h5; rfl
theorem c_spec_l2Uses (k : Int) : F n_spec_l2Uses [.val (.i k)] (.tup [.b (decide (1 ≤ k ∧ k ≤ 4)), .b (decide (k = 1 ∨ k = 3)), .b (decide (k = 3)), .b (decide (k = 1)), .b (decide (k = 1 ∨ k = 4))]) [[]] := by
  refine i_spec_l2Uses ?_
  conv => whnf
  refine g 0 0 [] ?_
  conv => whnf
  refine ⟨⟨I, I, I, I, I, I⟩, ?_⟩
  refine W.sq ?_
  refine g 0 1 [] ?_
  conv => whnf
  refine ⟨⟨I, I⟩, ?_⟩
  refine W.blk ?_
  refine g 9 10 [] ?_
  conv => whnf
  refine ⟨⟨I, I, I⟩, ?_⟩
  refine W.cn ?_
  conv => whnf
  refine ⟨fun h1 => ?_, fun h1 => ?_⟩
  replace h1 := dt h1
  refine g 7 9 [] ?_
  conv => whnf
  refine ⟨⟨I, I, I, I, I, I⟩, ?_⟩
  refine W.ret ?_
  refine EndsW.rt ?_
  conv => whnf
  refine ⟨⟨I, ⟨I, I⟩, I, ⟨I, I⟩, I, ⟨I, I⟩, I, ⟨I, I⟩, I, ⟨I, I⟩, I⟩, ?_, rfl⟩
  rotate_left 1
  replace h1 := df h1
  refine g 8 9 [] ?_
  conv => whnf
  refine ⟨⟨I, I, I⟩, ?_⟩
  refine W.cn ?_
  conv => whnf
  refine ⟨fun h2 => ?_, fun h2 => ?_⟩
  replace h2 := dt h2
  refine g 7 12 [] ?_
  conv => whnf
  refine ⟨⟨I, I, I, I, I, I⟩, ?_⟩
  refine W.ret ?_
  refine EndsW.rt ?_
  conv => whnf
  refine ⟨⟨I, ⟨I, I⟩, I, ⟨I, I⟩, I, ⟨I, I⟩, I, ⟨I, I⟩, I, ⟨I, I⟩, I⟩, ?_, rfl⟩
  rotate_left 1
  replace h2 := df h2
  refine g 10 12 [] ?_
  conv => whnf
  refine ⟨⟨I, I, I⟩, ?_⟩
  refine W.cn ?_
  conv => whnf
  refine ⟨fun h3 => ?_, fun h3 => ?_⟩
  replace h3 := dt h3
  refine g 7 14 [] ?_
  conv => whnf
  refine ⟨⟨I, I, I, I, I, I⟩, ?_⟩
  refine W.ret ?_
  refine EndsW.rt ?_
  conv => whnf
  refine ⟨⟨I, ⟨I, I⟩, I, ⟨I, I⟩, I, ⟨I, I⟩, I, ⟨I, I⟩, I, ⟨I, I⟩, I⟩, ?_, rfl⟩
  rotate_left 1
  replace h3 := df h3
  refine g 7 14 [] ?_
  conv => whnf
  refine ⟨⟨I, I, I⟩, ?_⟩
  refine W.cn ?_
  conv => whnf
  refine ⟨fun h4 => ?_, fun h4 => ?_⟩
  replace h4 := dt h4
  refine g 14 16 [] ?_
  conv => whnf
  refine ⟨⟨I, I, I, I, I, I⟩, ?_⟩
  refine W.ret ?_
  refine EndsW.rt ?_
  conv => whnf
  refine ⟨⟨I, ⟨I, I⟩, I, ⟨I, I⟩, I, ⟨I, I⟩, I, ⟨I, I⟩, I, ⟨I, I⟩, I⟩, ?_, rfl⟩
  rotate_left 1
  replace h4 := df h4
  refine W.skip ?_
  refine g 14 16 [] ?_
  conv => whnf
  refine ⟨⟨I, I, I, I, I, I⟩, ?_⟩
  refine W.ret ?_
  refine EndsW.rt ?_
  conv => whnf
  refine ⟨⟨I, ⟨I, I⟩, I, ⟨I, I⟩, I, ⟨I, I⟩, I, ⟨I, I⟩, I, ⟨I, I⟩, I⟩, ?_, rfl⟩
  rotate_left 1
  all_goals exact tup5 (by grind) (by grind) (by grind) (by grind) (by grind)
end Go.K

end

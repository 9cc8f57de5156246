/- Contracts of functions of the program: what each call answers. -/
import Derived.Test.YtcccigapbalidaaTmc
import Derived.Test.YtcccigapbalidaaProg
set_option linter.unusedVariables false
set_option linter.unusedSimpArgs false
open Go Go.Tm Go.Proofs
namespace Go.K
def E : Env := (.node (.node (.node (.node (.node (.node .nil 2 ⟨(.int .i64), [.t (.v (.int .i64 0))], 8⟩ .nil) 3 ⟨(.int .i64), [.t (.v (.int .i64 0))], 8⟩ (.node .nil 4 ⟨.bool, [.b false], 1⟩ .nil)) 5 ⟨(.int .u8), [.t (.v (.int .u8 0))], 1⟩ (.node (.node .nil 6 ⟨(.int .u8), [.t (.v (.int .u8 0))], 1⟩ .nil) 7 ⟨(.struct [(0, 2), (1, 3), (2, 4), (3, 6)]), [.t (.v (.int .i64 0)), .t (.v (.int .i64 0)), .b false, .t (.v (.int .u8 0))], 24⟩ .nil)) 9 ⟨.str, [.s ⟨#[]⟩], 16⟩ (.node (.node (.node .nil 12 ⟨(.int .u64), [.t (.v (.int .u64 0))], 8⟩ .nil) 13 ⟨(.struct [(0, 9), (1, 12)]), [.s ⟨#[]⟩, .t (.v (.int .u64 0))], 24⟩ .nil) 17 ⟨(.ptr 135), [.t (.v (.pointer none))], 8⟩ (.node (.node .nil 18 ⟨(.struct [(0, 17)]), [.t (.v (.pointer none))], 8⟩ .nil) 19 ⟨(.struct [(0, 17)]), [.t (.v (.pointer none))], 8⟩ .nil))) 21 ⟨(.int .i32), [.t (.v (.int .i32 0))], 4⟩ (.node (.node (.node (.node .nil 23 ⟨(.struct [(0, 3), (1, 3), (2, 3), (3, 9)]), [.t (.v (.int .i64 0)), .t (.v (.int .i64 0)), .t (.v (.int .i64 0)), .s ⟨#[]⟩], 40⟩ .nil) 24 ⟨(.struct [(0, 3), (1, 3), (2, 3), (3, 9)]), [.t (.v (.int .i64 0)), .t (.v (.int .i64 0)), .t (.v (.int .i64 0)), .s ⟨#[]⟩], 40⟩ (.node .nil 27 ⟨(.struct [(0, 3), (1, 3), (2, 3), (3, 9)]), [.t (.v (.int .i64 0)), .t (.v (.int .i64 0)), .t (.v (.int .i64 0)), .s ⟨#[]⟩], 40⟩ .nil)) 34 ⟨(.slice 9), [.own [false] []], 24⟩ (.node (.node .nil 40 ⟨(.slice 70), [.own [false, false, false] []], 24⟩ .nil) 42 ⟨(.slice 73), [.own [false, false, false] []], 24⟩ .nil)) 50 ⟨(.struct [(0, 3), (1, 3), (2, 4), (3, 3), (4, 3), (5, 3), (6, 3), (7, 3), (8, 34), (9, 9), (10, 3)]), [.t (.v (.int .i64 0)), .t (.v (.int .i64 0)), .b false, .t (.v (.int .i64 0)), .t (.v (.int .i64 0)), .t (.v (.int .i64 0)), .t (.v (.int .i64 0)), .t (.v (.int .i64 0)), .own [false] [], .s ⟨#[]⟩, .t (.v (.int .i64 0))], 112⟩ (.node (.node (.node .nil 51 ⟨(.struct [(0, 3), (1, 3), (2, 4), (3, 3), (4, 3), (5, 3), (6, 3), (7, 3), (8, 34), (9, 9), (10, 3)]), [.t (.v (.int .i64 0)), .t (.v (.int .i64 0)), .b false, .t (.v (.int .i64 0)), .t (.v (.int .i64 0)), .t (.v (.int .i64 0)), .t (.v (.int .i64 0)), .t (.v (.int .i64 0)), .own [false] [], .s ⟨#[]⟩, .t (.v (.int .i64 0))], 112⟩ .nil) 54 ⟨(.struct [(0, 3), (1, 3), (2, 4), (3, 3), (4, 3), (5, 3), (6, 3), (7, 3), (8, 34), (9, 9), (10, 3)]), [.t (.v (.int .i64 0)), .t (.v (.int .i64 0)), .b false, .t (.v (.int .i64 0)), .t (.v (.int .i64 0)), .t (.v (.int .i64 0)), .t (.v (.int .i64 0)), .t (.v (.int .i64 0)), .own [false] [], .s ⟨#[]⟩, .t (.v (.int .i64 0))], 112⟩ .nil) 58 ⟨(.slice 109), [.own [false, false, true] []], 24⟩ (.node (.node .nil 59 ⟨(.struct [(0, 58)]), [.own [false, false, true] []], 24⟩ .nil) 60 ⟨(.struct [(0, 58)]), [.own [false, false, true] []], 24⟩ .nil)))) 63 ⟨(.slice 96), [.own [false, false, true] []], 24⟩ (.node (.node (.node (.node (.node .nil 64 ⟨(.struct [(0, 63)]), [.own [false, false, true] []], 24⟩ .nil) 65 ⟨(.struct [(0, 63)]), [.own [false, false, true] []], 24⟩ (.node .nil 69 ⟨(.struct [(0, 3), (1, 9), (2, 9)]), [.t (.v (.int .i64 0)), .s ⟨#[]⟩, .s ⟨#[]⟩], 40⟩ .nil)) 70 ⟨(.struct [(0, 3), (1, 9), (2, 9)]), [.t (.v (.int .i64 0)), .s ⟨#[]⟩, .s ⟨#[]⟩], 40⟩ (.node (.node .nil 73 ⟨(.struct [(0, 3), (1, 9), (2, 9)]), [.t (.v (.int .i64 0)), .s ⟨#[]⟩, .s ⟨#[]⟩], 40⟩ .nil) 79 ⟨(.slice 5), [.own [false] []], 24⟩ .nil)) 80 ⟨(.int .u64), [.t (.v (.int .u64 0))], 8⟩ (.node (.node (.node .nil 82 ⟨(.int .u64), [.t (.v (.int .u64 0))], 8⟩ .nil) 83 ⟨(.int .u64), [.t (.v (.int .u64 0))], 8⟩ .nil) 94 ⟨(.slice 3), [.own [false] []], 24⟩ (.node (.node .nil 95 ⟨(.struct [(0, 9), (1, 3), (2, 94)]), [.s ⟨#[]⟩, .t (.v (.int .i64 0)), .own [false] []], 48⟩ .nil) 96 ⟨(.struct [(0, 9), (1, 3), (2, 94)]), [.s ⟨#[]⟩, .t (.v (.int .i64 0)), .own [false] []], 48⟩ .nil))) 98 ⟨(.map 9 4), [.t (.v (.map none))], 8⟩ (.node (.node (.node (.node .nil 100 ⟨(.struct [(0, 3), (1, 3), (2, 3), (3, 3), (4, 3), (5, 3), (6, 9), (7, 34)]), [.t (.v (.int .i64 0)), .t (.v (.int .i64 0)), .t (.v (.int .i64 0)), .t (.v (.int .i64 0)), .t (.v (.int .i64 0)), .t (.v (.int .i64 0)), .s ⟨#[]⟩, .own [false] []], 88⟩ .nil) 101 ⟨(.struct [(0, 3), (1, 3), (2, 3), (3, 3), (4, 3), (5, 3), (6, 9), (7, 34)]), [.t (.v (.int .i64 0)), .t (.v (.int .i64 0)), .t (.v (.int .i64 0)), .t (.v (.int .i64 0)), .t (.v (.int .i64 0)), .t (.v (.int .i64 0)), .s ⟨#[]⟩, .own [false] []], 88⟩ .nil) 107 ⟨(.ptr 83), [.t (.v (.pointer none))], 8⟩ (.node (.node .nil 109 ⟨(.struct [(0, 9), (1, 3), (2, 94)]), [.s ⟨#[]⟩, .t (.v (.int .i64 0)), .own [false] []], 48⟩ .nil) 121 ⟨(.struct [(0, 17), (1, 17), (2, 17), (3, 9)]), [.t (.v (.pointer none)), .t (.v (.pointer none)), .t (.v (.pointer none)), .s ⟨#[]⟩], 40⟩ .nil)) 127 ⟨(.int .u32), [.t (.v (.int .u32 0))], 4⟩ (.node (.node (.node .nil 128 ⟨(.int .u8), [.t (.v (.int .u8 0))], 1⟩ .nil) 129 ⟨(.int .u8), [.t (.v (.int .u8 0))], 1⟩ .nil) 131 ⟨(.ptr 5), [.t (.v (.pointer none))], 8⟩ (.node (.node .nil 132 ⟨(.int .i32), [.t (.v (.int .i32 0))], 4⟩ .nil) 133 ⟨(.int .i32), [.t (.v (.int .i32 0))], 4⟩ .nil)))))
set_option maxRecDepth 10000 in
theorem E_ok : EnvOk Try.prog E := by
  unfold E
  repeat (first | exact EnvOk.nil | refine EnvOk.node ?_ ⟨by kernel_rfl, by kernel_rfl, by simp, by simp [zcOk, sc], by simp [Ty.agg], by simp, by simp, by simp⟩ ?_)
def md (f : FuncId) : List Md := (bif Nat.blt f 51 then (bif Nat.blt f 27 then (bif Nat.blt f 15 then (bif Nat.blt f 9 then (bif Nat.blt f 6 then (bif Nat.blt f 4 then [] else (bif Nat.blt f 5 then [.v] else [.v])) else (bif Nat.blt f 7 then [.v, .v] else (bif Nat.blt f 8 then [.v, .v] else [.v, .v]))) else (bif Nat.blt f 12 then (bif Nat.blt f 10 then [.v, .v, .v, .v] else (bif Nat.blt f 11 then [.v] else [.v])) else (bif Nat.blt f 13 then [.v, .v] else (bif Nat.blt f 14 then [.v] else [.v])))) else (bif Nat.blt f 21 then (bif Nat.blt f 18 then (bif Nat.blt f 16 then [.v, .v] else (bif Nat.blt f 17 then [.v] else [.v])) else (bif Nat.blt f 19 then [.v] else (bif Nat.blt f 20 then [.v] else [.v]))) else (bif Nat.blt f 24 then (bif Nat.blt f 22 then [.v, .v] else (bif Nat.blt f 23 then [.v, .v] else [.v, .v])) else (bif Nat.blt f 25 then [.v] else (bif Nat.blt f 26 then [.v, .v] else [.v, .v]))))) else (bif Nat.blt f 39 then (bif Nat.blt f 33 then (bif Nat.blt f 30 then (bif Nat.blt f 28 then [.v, .v] else (bif Nat.blt f 29 then [.v, .v] else [.v])) else (bif Nat.blt f 31 then [.v, .v] else (bif Nat.blt f 32 then [.v, .v] else [.b, .v]))) else (bif Nat.blt f 36 then (bif Nat.blt f 34 then [.v, .v] else (bif Nat.blt f 35 then [.v, .v] else [.v, .v])) else (bif Nat.blt f 37 then [.v, .v, .v, .v] else (bif Nat.blt f 38 then [.v, .v, .v, .v] else [.v, .v])))) else (bif Nat.blt f 45 then (bif Nat.blt f 42 then (bif Nat.blt f 40 then [.v] else (bif Nat.blt f 41 then [.v] else [.v])) else (bif Nat.blt f 43 then [.v, .v] else (bif Nat.blt f 44 then [.v, .v] else [.v]))) else (bif Nat.blt f 48 then (bif Nat.blt f 46 then [.v] else (bif Nat.blt f 47 then [.v] else [.v, .v])) else (bif Nat.blt f 49 then [.v, .v] else (bif Nat.blt f 50 then [.v, .v] else [.v])))))) else (bif Nat.blt f 75 then (bif Nat.blt f 63 then (bif Nat.blt f 57 then (bif Nat.blt f 54 then (bif Nat.blt f 52 then [.v, .v] else (bif Nat.blt f 53 then [.v] else [.v])) else (bif Nat.blt f 55 then [.b, .v] else (bif Nat.blt f 56 then [.v, .v] else [.v]))) else (bif Nat.blt f 60 then (bif Nat.blt f 58 then [.v] else (bif Nat.blt f 59 then [.v] else [.v])) else (bif Nat.blt f 61 then [.v] else (bif Nat.blt f 62 then [.p, .v] else [.v])))) else (bif Nat.blt f 69 then (bif Nat.blt f 66 then (bif Nat.blt f 64 then [.v, .v] else (bif Nat.blt f 65 then [.v] else [.v])) else (bif Nat.blt f 67 then [.v, .v] else (bif Nat.blt f 68 then [.v, .v] else [.v]))) else (bif Nat.blt f 72 then (bif Nat.blt f 70 then [.v, .v, .v] else (bif Nat.blt f 71 then [.v, .v, .v] else [.v])) else (bif Nat.blt f 73 then [.v] else (bif Nat.blt f 74 then [.v] else [.v, .v]))))) else (bif Nat.blt f 87 then (bif Nat.blt f 81 then (bif Nat.blt f 78 then (bif Nat.blt f 76 then [.v] else (bif Nat.blt f 77 then [.v] else [.v])) else (bif Nat.blt f 79 then [.v, .v] else (bif Nat.blt f 80 then [.v, .v] else [.v, .v]))) else (bif Nat.blt f 84 then (bif Nat.blt f 82 then [.v, .v] else (bif Nat.blt f 83 then [.v, .v] else [.b, .v])) else (bif Nat.blt f 85 then [.v, .v] else (bif Nat.blt f 86 then [.v] else [.v])))) else (bif Nat.blt f 93 then (bif Nat.blt f 90 then (bif Nat.blt f 88 then [.v, .v] else (bif Nat.blt f 89 then [.v] else [.v, .v])) else (bif Nat.blt f 91 then [.v, .v] else (bif Nat.blt f 92 then [.v, .v] else [.v]))) else (bif Nat.blt f 96 then (bif Nat.blt f 94 then [.v] else (bif Nat.blt f 95 then [.v, .v] else [.v])) else (bif Nat.blt f 98 then (bif Nat.blt f 97 then [.v, .v] else [.v]) else (bif Nat.blt f 99 then [.v] else [.v])))))))
def sq (t : TypeId) : Bool := false
theorem sq_ok : ∀ t, sq t = true → SqOk Try.prog t := fun t h => by cases h
def F : FuncId → List A → V → List (List V) → Prop := fun f xs res outs => Enters Try.prog f ∧ Tm.Fn Try.prog f xs res outs
def C : Cx := ⟨E, F, md, sq⟩
theorem C_ok : CxOk Try.prog C := ⟨E_ok, sq_ok, fun _ _ _ _ h => h⟩
def Clo (as0 : List A) : Prop := ∀ a ∈ as0, ∀ c ∈ aCells a, closedCell c = true ∨ ∃ cs, a = .ptr cs
abbrev n_laws_FnExactConstants : FuncId := 3
theorem e_laws_FnExactConstants : Enters Try.prog 3 := ⟨Try.f3, Try.func3, by kernel_rfl, by kernel_rfl⟩
theorem i_laws_FnExactConstants {xs : List A} {res : V} {outs : List (List V)} (hl : xs.length ≤ 1) (hc : Clo xs) {c : Code} (hb : Try.f3.body = some c) (h : Run Try.prog 1 c (ini 1 xs) (Tm.Ends 1 E [(0, 4, false)] xs res outs)) : Tm.Fn Try.prog 3 xs res outs := Tm.Fn.intro Try.func3 hb rfl E_ok rfl hl hc h
abbrev n_laws_FnExactFormEntry : FuncId := 4
theorem e_laws_FnExactFormEntry : Enters Try.prog 4 := ⟨Try.f4, Try.func4, by kernel_rfl, by kernel_rfl⟩
theorem i_laws_FnExactFormEntry {xs : List A} {res : V} {outs : List (List V)} (hl : xs.length ≤ 20) (hc : Clo xs) {c : Code} (hb : Try.f4.body = some c) (h : Run Try.prog 20 c (ini 20 xs) (Tm.Ends 20 E [(2, 4, false)] xs res outs)) : Tm.Fn Try.prog 4 xs res outs := Tm.Fn.intro Try.func4 hb rfl E_ok rfl hl hc h
abbrev n_laws_FnExactReadEntry : FuncId := 5
theorem e_laws_FnExactReadEntry : Enters Try.prog 5 := ⟨Try.f5, Try.func5, by kernel_rfl, by kernel_rfl⟩
theorem i_laws_FnExactReadEntry {xs : List A} {res : V} {outs : List (List V)} (hl : xs.length ≤ 29) (hc : Clo xs) {c : Code} (hb : Try.f5.body = some c) (h : Run Try.prog 29 c (ini 29 xs) (Tm.Ends 29 E [(2, 4, false)] xs res outs)) : Tm.Fn Try.prog 5 xs res outs := Tm.Fn.intro Try.func5 hb rfl E_ok rfl hl hc h
abbrev n_laws_FnExactValue : FuncId := 6
theorem e_laws_FnExactValue : Enters Try.prog 6 := ⟨Try.f6, Try.func6, by kernel_rfl, by kernel_rfl⟩
theorem i_laws_FnExactValue {xs : List A} {res : V} {outs : List (List V)} (hl : xs.length ≤ 34) (hc : Clo xs) {c : Code} (hb : Try.f6.body = some c) (h : Run Try.prog 34 c (ini 34 xs) (Tm.Ends 34 E [(4, 4, false)] xs res outs)) : Tm.Fn Try.prog 6 xs res outs := Tm.Fn.intro Try.func6 hb rfl E_ok rfl hl hc h
abbrev n_laws_FnExactLose : FuncId := 7
theorem e_laws_FnExactLose : Enters Try.prog 7 := ⟨Try.f7, Try.func7, by kernel_rfl, by kernel_rfl⟩
theorem i_laws_FnExactLose {xs : List A} {res : V} {outs : List (List V)} (hl : xs.length ≤ 74) (hc : Clo xs) {c : Code} (hb : Try.f7.body = some c) (h : Run Try.prog 74 c (ini 74 xs) (Tm.Ends 74 E [(4, 4, false)] xs res outs)) : Tm.Fn Try.prog 7 xs res outs := Tm.Fn.intro Try.func7 hb rfl E_ok rfl hl hc h
abbrev n_laws_FnExactDouble : FuncId := 8
theorem e_laws_FnExactDouble : Enters Try.prog 8 := ⟨Try.f8, Try.func8, by kernel_rfl, by kernel_rfl⟩
theorem i_laws_FnExactDouble {xs : List A} {res : V} {outs : List (List V)} (hl : xs.length ≤ 74) (hc : Clo xs) {c : Code} (hb : Try.f8.body = some c) (h : Run Try.prog 74 c (ini 74 xs) (Tm.Ends 74 E [(4, 4, false)] xs res outs)) : Tm.Fn Try.prog 8 xs res outs := Tm.Fn.intro Try.func8 hb rfl E_ok rfl hl hc h
abbrev n_laws_FnExactBend : FuncId := 9
theorem e_laws_FnExactBend : Enters Try.prog 9 := ⟨Try.f9, Try.func9, by kernel_rfl, by kernel_rfl⟩
theorem i_laws_FnExactBend {xs : List A} {res : V} {outs : List (List V)} (hl : xs.length ≤ 84) (hc : Clo xs) {c : Code} (hb : Try.f9.body = some c) (h : Run Try.prog 84 c (ini 84 xs) (Tm.Ends 84 E [(8, 4, false)] xs res outs)) : Tm.Fn Try.prog 9 xs res outs := Tm.Fn.intro Try.func9 hb rfl E_ok rfl hl hc h
abbrev n_laws_FnExactValidWorker : FuncId := 10
theorem e_laws_FnExactValidWorker : Enters Try.prog 10 := ⟨Try.f10, Try.func10, by kernel_rfl, by kernel_rfl⟩
theorem i_laws_FnExactValidWorker {xs : List A} {res : V} {outs : List (List V)} (hl : xs.length ≤ 27) (hc : Clo xs) {c : Code} (hb : Try.f10.body = some c) (h : Run Try.prog 27 c (ini 27 xs) (Tm.Ends 27 E [(2, 4, false)] xs res outs)) : Tm.Fn Try.prog 10 xs res outs := Tm.Fn.intro Try.func10 hb rfl E_ok rfl hl hc h
abbrev n_laws_FnExactCheckPlan : FuncId := 11
theorem e_laws_FnExactCheckPlan : Enters Try.prog 11 := ⟨Try.f11, Try.func11, by kernel_rfl, by kernel_rfl⟩
theorem i_laws_FnExactCheckPlan {xs : List A} {res : V} {outs : List (List V)} (hl : xs.length ≤ 27) (hc : Clo xs) {c : Code} (hb : Try.f11.body = some c) (h : Run Try.prog 27 c (ini 27 xs) (Tm.Ends 27 E [(2, 4, false)] xs res outs)) : Tm.Fn Try.prog 11 xs res outs := Tm.Fn.intro Try.func11 hb rfl E_ok rfl hl hc h
abbrev n_laws_FnExactForged : FuncId := 12
theorem e_laws_FnExactForged : Enters Try.prog 12 := ⟨Try.f12, Try.func12, by kernel_rfl, by kernel_rfl⟩
theorem i_laws_FnExactForged {xs : List A} {res : V} {outs : List (List V)} (hl : xs.length ≤ 27) (hc : Clo xs) {c : Code} (hb : Try.f12.body = some c) (h : Run Try.prog 27 c (ini 27 xs) (Tm.Ends 27 E [(4, 4, false)] xs res outs)) : Tm.Fn Try.prog 12 xs res outs := Tm.Fn.intro Try.func12 hb rfl E_ok rfl hl hc h
abbrev n_laws_FnExactWorkerFall : FuncId := 13
theorem e_laws_FnExactWorkerFall : Enters Try.prog 13 := ⟨Try.f13, Try.func13, by kernel_rfl, by kernel_rfl⟩
theorem i_laws_FnExactWorkerFall {xs : List A} {res : V} {outs : List (List V)} (hl : xs.length ≤ 69) (hc : Clo xs) {c : Code} (hb : Try.f13.body = some c) (h : Run Try.prog 69 c (ini 69 xs) (Tm.Ends 69 E [(2, 4, false)] xs res outs)) : Tm.Fn Try.prog 13 xs res outs := Tm.Fn.intro Try.func13 hb rfl E_ok rfl hl hc h
abbrev n_laws_FnExactWorkerRise : FuncId := 14
theorem e_laws_FnExactWorkerRise : Enters Try.prog 14 := ⟨Try.f14, Try.func14, by kernel_rfl, by kernel_rfl⟩
theorem i_laws_FnExactWorkerRise {xs : List A} {res : V} {outs : List (List V)} (hl : xs.length ≤ 69) (hc : Clo xs) {c : Code} (hb : Try.f14.body = some c) (h : Run Try.prog 69 c (ini 69 xs) (Tm.Ends 69 E [(2, 4, false)] xs res outs)) : Tm.Fn Try.prog 14 xs res outs := Tm.Fn.intro Try.func14 hb rfl E_ok rfl hl hc h
abbrev n_laws_szEntry : FuncId := 15
theorem e_laws_szEntry : Enters Try.prog 15 := ⟨Try.f15, Try.func15, by kernel_rfl, by kernel_rfl⟩
theorem i_laws_szEntry {xs : List A} {res : V} {outs : List (List V)} (hl : xs.length ≤ 13) (hc : Clo xs) {c : Code} (hb : Try.f15.body = some c) (h : Run Try.prog 13 c (ini 13 xs) (Tm.Ends 13 E [(4, 3, false)] xs res outs)) : Tm.Fn Try.prog 15 xs res outs := Tm.Fn.intro Try.func15 hb rfl E_ok rfl hl hc h
abbrev n_spec_FormEntry : FuncId := 16
theorem e_spec_FormEntry : Enters Try.prog 16 := ⟨Try.f16, Try.func16, by kernel_rfl, by kernel_rfl⟩
theorem i_spec_FormEntry {xs : List A} {res : V} {outs : List (List V)} (hl : xs.length ≤ 25) (hc : Clo xs) {c : Code} (hb : Try.f16.body = some c) (h : Run Try.prog 25 c (ini 25 xs) (Tm.Ends 25 E [(2, 9, false)] xs res outs)) : Tm.Fn Try.prog 16 xs res outs := Tm.Fn.intro Try.func16 hb rfl E_ok rfl hl hc h
abbrev n_laws_toEntry : FuncId := 17
theorem e_laws_toEntry : Enters Try.prog 17 := ⟨Try.f17, Try.func17, by kernel_rfl, by kernel_rfl⟩
theorem i_laws_toEntry {xs : List A} {res : V} {outs : List (List V)} (hl : xs.length ≤ 17) (hc : Clo xs) {c : Code} (hb : Try.f17.body = some c) (h : Run Try.prog 17 c (ini 17 xs) (Tm.Ends 17 E [(2, 27, true)] xs res outs)) : Tm.Fn Try.prog 17 xs res outs := Tm.Fn.intro Try.func17 hb rfl E_ok rfl hl hc h
abbrev n_impl_FormEntry : FuncId := 18
theorem e_impl_FormEntry : Enters Try.prog 18 := ⟨Try.f18, Try.func18, by kernel_rfl, by kernel_rfl⟩
theorem i_impl_FormEntry {xs : List A} {res : V} {outs : List (List V)} (hl : xs.length ≤ 24) (hc : Clo xs) {c : Code} (hb : Try.f18.body = some c) (h : Run Try.prog 24 c (ini 24 xs) (Tm.Ends 24 E [(2, 9, false)] xs res outs)) : Tm.Fn Try.prog 18 xs res outs := Tm.Fn.intro Try.func18 hb rfl E_ok rfl hl hc h
abbrev n_spec_ReadEntry : FuncId := 19
theorem e_spec_ReadEntry : Enters Try.prog 19 := ⟨Try.f19, Try.func19, by kernel_rfl, by kernel_rfl⟩
theorem i_spec_ReadEntry {xs : List A} {res : V} {outs : List (List V)} (hl : xs.length ≤ 32) (hc : Clo xs) {c : Code} (hb : Try.f19.body = some c) (h : Run Try.prog 32 c (ini 32 xs) (Tm.Ends 32 E [(2, 27, true), (3, 4, false)] xs res outs)) : Tm.Fn Try.prog 19 xs res outs := Tm.Fn.intro Try.func19 hb rfl E_ok rfl hl hc h
abbrev n_impl_ReadEntry : FuncId := 20
theorem e_impl_ReadEntry : Enters Try.prog 20 := ⟨Try.f20, Try.func20, by kernel_rfl, by kernel_rfl⟩
theorem i_impl_ReadEntry {xs : List A} {res : V} {outs : List (List V)} (hl : xs.length ≤ 36) (hc : Clo xs) {c : Code} (hb : Try.f20.body = some c) (h : Run Try.prog 36 c (ini 36 xs) (Tm.Ends 36 E [(2, 27, true), (3, 4, false)] xs res outs)) : Tm.Fn Try.prog 20 xs res outs := Tm.Fn.intro Try.func20 hb rfl E_ok rfl hl hc h
abbrev n_laws_eqEntry : FuncId := 21
theorem e_laws_eqEntry : Enters Try.prog 21 := ⟨Try.f21, Try.func21, by kernel_rfl, by kernel_rfl⟩
theorem i_laws_eqEntry {xs : List A} {res : V} {outs : List (List V)} (hl : xs.length ≤ 25) (hc : Clo xs) {c : Code} (hb : Try.f21.body = some c) (h : Run Try.prog 25 c (ini 25 xs) (Tm.Ends 25 E [(4, 4, false)] xs res outs)) : Tm.Fn Try.prog 21 xs res outs := Tm.Fn.intro Try.func21 hb rfl E_ok rfl hl hc h
abbrev n_laws_szStringS : FuncId := 22
theorem e_laws_szStringS : Enters Try.prog 22 := ⟨Try.f22, Try.func22, by kernel_rfl, by kernel_rfl⟩
theorem i_laws_szStringS {xs : List A} {res : V} {outs : List (List V)} (hl : xs.length ≤ 28) (hc : Clo xs) {c : Code} (hb : Try.f22.body = some c) (h : Run Try.prog 28 c (ini 28 xs) (Tm.Ends 28 E [(4, 3, false)] xs res outs)) : Tm.Fn Try.prog 22 xs res outs := Tm.Fn.intro Try.func22 hb rfl E_ok rfl hl hc h
abbrev n_spec_Value : FuncId := 23
theorem e_spec_Value : Enters Try.prog 23 := ⟨Try.f23, Try.func23, by kernel_rfl, by kernel_rfl⟩
theorem i_spec_Value {xs : List A} {res : V} {outs : List (List V)} (hl : xs.length ≤ 26) (hc : Clo xs) {c : Code} (hb : Try.f23.body = some c) (h : Run Try.prog 26 c (ini 26 xs) (Tm.Ends 26 E [(4, 9, false)] xs res outs)) : Tm.Fn Try.prog 23 xs res outs := Tm.Fn.intro Try.func23 hb rfl E_ok rfl hl hc h
abbrev n_laws_toStringS : FuncId := 24
theorem e_laws_toStringS : Enters Try.prog 24 := ⟨Try.f24, Try.func24, by kernel_rfl, by kernel_rfl⟩
theorem i_laws_toStringS {xs : List A} {res : V} {outs : List (List V)} (hl : xs.length ≤ 22) (hc : Clo xs) {c : Code} (hb : Try.f24.body = some c) (h : Run Try.prog 22 c (ini 22 xs) (Tm.Ends 22 E [(2, 34, false)] xs res outs)) : Tm.Fn Try.prog 24 xs res outs := Tm.Fn.intro Try.func24 hb rfl E_ok rfl hl hc h
abbrev n_impl_Value : FuncId := 25
theorem e_impl_Value : Enters Try.prog 25 := ⟨Try.f25, Try.func25, by kernel_rfl, by kernel_rfl⟩
theorem i_impl_Value {xs : List A} {res : V} {outs : List (List V)} (hl : xs.length ≤ 22) (hc : Clo xs) {c : Code} (hb : Try.f25.body = some c) (h : Run Try.prog 22 c (ini 22 xs) (Tm.Ends 22 E [(4, 9, false)] xs res outs)) : Tm.Fn Try.prog 25 xs res outs := Tm.Fn.intro Try.func25 hb rfl E_ok rfl hl hc h
abbrev n_laws_eqStringS : FuncId := 26
theorem e_laws_eqStringS : Enters Try.prog 26 := ⟨Try.f26, Try.func26, by kernel_rfl, by kernel_rfl⟩
theorem i_laws_eqStringS {xs : List A} {res : V} {outs : List (List V)} (hl : xs.length ≤ 26) (hc : Clo xs) {c : Code} (hb : Try.f26.body = some c) (h : Run Try.prog 26 c (ini 26 xs) (Tm.Ends 26 E [(4, 4, false)] xs res outs)) : Tm.Fn Try.prog 26 xs res outs := Tm.Fn.intro Try.func26 hb rfl E_ok rfl hl hc h
abbrev n_laws_szParcelS : FuncId := 27
theorem e_laws_szParcelS : Enters Try.prog 27 := ⟨Try.f27, Try.func27, by kernel_rfl, by kernel_rfl⟩
theorem i_laws_szParcelS {xs : List A} {res : V} {outs : List (List V)} (hl : xs.length ≤ 27) (hc : Clo xs) {c : Code} (hb : Try.f27.body = some c) (h : Run Try.prog 27 c (ini 27 xs) (Tm.Ends 27 E [(4, 3, false)] xs res outs)) : Tm.Fn Try.prog 27 xs res outs := Tm.Fn.intro Try.func27 hb rfl E_ok rfl hl hc h
abbrev n_spec_Lose : FuncId := 28
theorem e_spec_Lose : Enters Try.prog 28 := ⟨Try.f28, Try.func28, by kernel_rfl, by kernel_rfl⟩
theorem i_spec_Lose {xs : List A} {res : V} {outs : List (List V)} (hl : xs.length ≤ 21) (hc : Clo xs) {c : Code} (hb : Try.f28.body = some c) (h : Run Try.prog 21 c (ini 21 xs) (Tm.Ends 21 E [(4, 42, false)] xs res outs)) : Tm.Fn Try.prog 28 xs res outs := Tm.Fn.intro Try.func28 hb rfl E_ok rfl hl hc h
abbrev n_laws_toParcelS : FuncId := 29
theorem e_laws_toParcelS : Enters Try.prog 29 := ⟨Try.f29, Try.func29, by kernel_rfl, by kernel_rfl⟩
theorem i_laws_toParcelS {xs : List A} {res : V} {outs : List (List V)} (hl : xs.length ≤ 23) (hc : Clo xs) {c : Code} (hb : Try.f29.body = some c) (h : Run Try.prog 23 c (ini 23 xs) (Tm.Ends 23 E [(2, 42, false)] xs res outs)) : Tm.Fn Try.prog 29 xs res outs := Tm.Fn.intro Try.func29 hb rfl E_ok rfl hl hc h
abbrev n_impl_Lose : FuncId := 30
theorem e_impl_Lose : Enters Try.prog 30 := ⟨Try.f30, Try.func30, by kernel_rfl, by kernel_rfl⟩
theorem i_impl_Lose {xs : List A} {res : V} {outs : List (List V)} (hl : xs.length ≤ 20) (hc : Clo xs) {c : Code} (hb : Try.f30.body = some c) (h : Run Try.prog 20 c (ini 20 xs) (Tm.Ends 20 E [(4, 42, false)] xs res outs)) : Tm.Fn Try.prog 30 xs res outs := Tm.Fn.intro Try.func30 hb rfl E_ok rfl hl hc h
abbrev n_laws_eqParcelS : FuncId := 31
theorem e_laws_eqParcelS : Enters Try.prog 31 := ⟨Try.f31, Try.func31, by kernel_rfl, by kernel_rfl⟩
theorem i_laws_eqParcelS {xs : List A} {res : V} {outs : List (List V)} (hl : xs.length ≤ 27) (hc : Clo xs) {c : Code} (hb : Try.f31.body = some c) (h : Run Try.prog 27 c (ini 27 xs) (Tm.Ends 27 E [(4, 4, false)] xs res outs)) : Tm.Fn Try.prog 31 xs res outs := Tm.Fn.intro Try.func31 hb rfl E_ok rfl hl hc h
abbrev n_laws_markParcelS : FuncId := 32
theorem e_laws_markParcelS : Enters Try.prog 32 := ⟨Try.f32, Try.func32, by kernel_rfl, by kernel_rfl⟩
theorem i_laws_markParcelS {xs : List A} {res : V} {outs : List (List V)} (hl : xs.length ≤ 36) (hc : Clo xs) {c : Code} (hb : Try.f32.body = some c) (h : Run Try.prog 36 c (ini 36 xs) (Tm.Ends 36 E [(4, 3, false)] xs res outs)) : Tm.Fn Try.prog 32 xs res outs := Tm.Fn.intro Try.func32 hb rfl E_ok rfl hl hc h
abbrev n_laws_heldParcelS : FuncId := 33
theorem e_laws_heldParcelS : Enters Try.prog 33 := ⟨Try.f33, Try.func33, by kernel_rfl, by kernel_rfl⟩
theorem i_laws_heldParcelS {xs : List A} {res : V} {outs : List (List V)} (hl : xs.length ≤ 42) (hc : Clo xs) {c : Code} (hb : Try.f33.body = some c) (h : Run Try.prog 42 c (ini 42 xs) (Tm.Ends 42 E [(4, 3, false)] xs res outs)) : Tm.Fn Try.prog 33 xs res outs := Tm.Fn.intro Try.func33 hb rfl E_ok rfl hl hc h
abbrev n_spec_Double : FuncId := 34
theorem e_spec_Double : Enters Try.prog 34 := ⟨Try.f34, Try.func34, by kernel_rfl, by kernel_rfl⟩
theorem i_spec_Double {xs : List A} {res : V} {outs : List (List V)} (hl : xs.length ≤ 24) (hc : Clo xs) {c : Code} (hb : Try.f34.body = some c) (h : Run Try.prog 24 c (ini 24 xs) (Tm.Ends 24 E [(4, 42, false)] xs res outs)) : Tm.Fn Try.prog 34 xs res outs := Tm.Fn.intro Try.func34 hb rfl E_ok rfl hl hc h
abbrev n_impl_Double : FuncId := 35
theorem e_impl_Double : Enters Try.prog 35 := ⟨Try.f35, Try.func35, by kernel_rfl, by kernel_rfl⟩
theorem i_impl_Double {xs : List A} {res : V} {outs : List (List V)} (hl : xs.length ≤ 24) (hc : Clo xs) {c : Code} (hb : Try.f35.body = some c) (h : Run Try.prog 24 c (ini 24 xs) (Tm.Ends 24 E [(4, 42, false)] xs res outs)) : Tm.Fn Try.prog 35 xs res outs := Tm.Fn.intro Try.func35 hb rfl E_ok rfl hl hc h
abbrev n_spec_Bend : FuncId := 36
theorem e_spec_Bend : Enters Try.prog 36 := ⟨Try.f36, Try.func36, by kernel_rfl, by kernel_rfl⟩
theorem i_spec_Bend {xs : List A} {res : V} {outs : List (List V)} (hl : xs.length ≤ 60) (hc : Clo xs) {c : Code} (hb : Try.f36.body = some c) (h : Run Try.prog 60 c (ini 60 xs) (Tm.Ends 60 E [(8, 42, false)] xs res outs)) : Tm.Fn Try.prog 36 xs res outs := Tm.Fn.intro Try.func36 hb rfl E_ok rfl hl hc h
abbrev n_impl_Bend : FuncId := 37
theorem e_impl_Bend : Enters Try.prog 37 := ⟨Try.f37, Try.func37, by kernel_rfl, by kernel_rfl⟩
theorem i_impl_Bend {xs : List A} {res : V} {outs : List (List V)} (hl : xs.length ≤ 53) (hc : Clo xs) {c : Code} (hb : Try.f37.body = some c) (h : Run Try.prog 53 c (ini 53 xs) (Tm.Ends 53 E [(8, 42, false)] xs res outs)) : Tm.Fn Try.prog 37 xs res outs := Tm.Fn.intro Try.func37 hb rfl E_ok rfl hl hc h
abbrev n_laws_szWorker : FuncId := 38
theorem e_laws_szWorker : Enters Try.prog 38 := ⟨Try.f38, Try.func38, by kernel_rfl, by kernel_rfl⟩
theorem i_laws_szWorker {xs : List A} {res : V} {outs : List (List V)} (hl : xs.length ≤ 19) (hc : Clo xs) {c : Code} (hb : Try.f38.body = some c) (h : Run Try.prog 19 c (ini 19 xs) (Tm.Ends 19 E [(4, 3, false)] xs res outs)) : Tm.Fn Try.prog 38 xs res outs := Tm.Fn.intro Try.func38 hb rfl E_ok rfl hl hc h
abbrev n_spec_ValidWorker : FuncId := 39
theorem e_spec_ValidWorker : Enters Try.prog 39 := ⟨Try.f39, Try.func39, by kernel_rfl, by kernel_rfl⟩
theorem i_spec_ValidWorker {xs : List A} {res : V} {outs : List (List V)} (hl : xs.length ≤ 129) (hc : Clo xs) {c : Code} (hb : Try.f39.body = some c) (h : Run Try.prog 129 c (ini 129 xs) (Tm.Ends 129 E [(2, 4, false)] xs res outs)) : Tm.Fn Try.prog 39 xs res outs := Tm.Fn.intro Try.func39 hb rfl E_ok rfl hl hc h
abbrev n_laws_toWorker : FuncId := 40
theorem e_laws_toWorker : Enters Try.prog 40 := ⟨Try.f40, Try.func40, by kernel_rfl, by kernel_rfl⟩
theorem i_laws_toWorker {xs : List A} {res : V} {outs : List (List V)} (hl : xs.length ≤ 39) (hc : Clo xs) {c : Code} (hb : Try.f40.body = some c) (h : Run Try.prog 39 c (ini 39 xs) (Tm.Ends 39 E [(2, 54, true)] xs res outs)) : Tm.Fn Try.prog 40 xs res outs := Tm.Fn.intro Try.func40 hb rfl E_ok rfl hl hc h
abbrev n_impl_ValidWorker : FuncId := 41
theorem e_impl_ValidWorker : Enters Try.prog 41 := ⟨Try.f41, Try.func41, by kernel_rfl, by kernel_rfl⟩
theorem i_impl_ValidWorker {xs : List A} {res : V} {outs : List (List V)} (hl : xs.length ≤ 124) (hc : Clo xs) {c : Code} (hb : Try.f41.body = some c) (h : Run Try.prog 124 c (ini 124 xs) (Tm.Ends 124 E [(2, 4, false)] xs res outs)) : Tm.Fn Try.prog 41 xs res outs := Tm.Fn.intro Try.func41 hb rfl E_ok rfl hl hc h
abbrev n_laws_eqWorker : FuncId := 42
theorem e_laws_eqWorker : Enters Try.prog 42 := ⟨Try.f42, Try.func42, by kernel_rfl, by kernel_rfl⟩
theorem i_laws_eqWorker {xs : List A} {res : V} {outs : List (List V)} (hl : xs.length ≤ 61) (hc : Clo xs) {c : Code} (hb : Try.f42.body = some c) (h : Run Try.prog 61 c (ini 61 xs) (Tm.Ends 61 E [(4, 4, false)] xs res outs)) : Tm.Fn Try.prog 42 xs res outs := Tm.Fn.intro Try.func42 hb rfl E_ok rfl hl hc h
abbrev n_laws_szPlan : FuncId := 43
theorem e_laws_szPlan : Enters Try.prog 43 := ⟨Try.f43, Try.func43, by kernel_rfl, by kernel_rfl⟩
theorem i_laws_szPlan {xs : List A} {res : V} {outs : List (List V)} (hl : xs.length ≤ 12) (hc : Clo xs) {c : Code} (hb : Try.f43.body = some c) (h : Run Try.prog 12 c (ini 12 xs) (Tm.Ends 12 E [(4, 3, false)] xs res outs)) : Tm.Fn Try.prog 43 xs res outs := Tm.Fn.intro Try.func43 hb rfl E_ok rfl hl hc h
abbrev n_spec_CheckPlan : FuncId := 44
theorem e_spec_CheckPlan : Enters Try.prog 44 := ⟨Try.f44, Try.func44, by kernel_rfl, by kernel_rfl⟩
theorem i_spec_CheckPlan {xs : List A} {res : V} {outs : List (List V)} (hl : xs.length ≤ 120) (hc : Clo xs) {c : Code} (hb : Try.f44.body = some c) (h : Run Try.prog 120 c (ini 120 xs) (Tm.Ends 120 E [(2, 3, false)] xs res outs)) : Tm.Fn Try.prog 44 xs res outs := Tm.Fn.intro Try.func44 hb rfl E_ok rfl hl hc h
abbrev n_laws_toPlan : FuncId := 45
theorem e_laws_toPlan : Enters Try.prog 45 := ⟨Try.f45, Try.func45, by kernel_rfl, by kernel_rfl⟩
theorem i_laws_toPlan {xs : List A} {res : V} {outs : List (List V)} (hl : xs.length ≤ 9) (hc : Clo xs) {c : Code} (hb : Try.f45.body = some c) (h : Run Try.prog 9 c (ini 9 xs) (Tm.Ends 9 E [(2, 65, true)] xs res outs)) : Tm.Fn Try.prog 45 xs res outs := Tm.Fn.intro Try.func45 hb rfl E_ok rfl hl hc h
abbrev n_impl_CheckPlan : FuncId := 46
theorem e_impl_CheckPlan : Enters Try.prog 46 := ⟨Try.f46, Try.func46, by kernel_rfl, by kernel_rfl⟩
theorem i_impl_CheckPlan {xs : List A} {res : V} {outs : List (List V)} (hl : xs.length ≤ 91) (hc : Clo xs) {c : Code} (hb : Try.f46.body = some c) (h : Run Try.prog 91 c (ini 91 xs) (Tm.Ends 91 E [(2, 3, false)] xs res outs)) : Tm.Fn Try.prog 46 xs res outs := Tm.Fn.intro Try.func46 hb rfl E_ok rfl hl hc h
abbrev n_laws_eqPlan : FuncId := 47
theorem e_laws_eqPlan : Enters Try.prog 47 := ⟨Try.f47, Try.func47, by kernel_rfl, by kernel_rfl⟩
theorem i_laws_eqPlan {xs : List A} {res : V} {outs : List (List V)} (hl : xs.length ≤ 11) (hc : Clo xs) {c : Code} (hb : Try.f47.body = some c) (h : Run Try.prog 11 c (ini 11 xs) (Tm.Ends 11 E [(4, 4, false)] xs res outs)) : Tm.Fn Try.prog 47 xs res outs := Tm.Fn.intro Try.func47 hb rfl E_ok rfl hl hc h
abbrev n_laws_szParcel : FuncId := 48
theorem e_laws_szParcel : Enters Try.prog 48 := ⟨Try.f48, Try.func48, by kernel_rfl, by kernel_rfl⟩
theorem i_laws_szParcel {xs : List A} {res : V} {outs : List (List V)} (hl : xs.length ≤ 20) (hc : Clo xs) {c : Code} (hb : Try.f48.body = some c) (h : Run Try.prog 20 c (ini 20 xs) (Tm.Ends 20 E [(4, 3, false)] xs res outs)) : Tm.Fn Try.prog 48 xs res outs := Tm.Fn.intro Try.func48 hb rfl E_ok rfl hl hc h
abbrev n_spec_Forged : FuncId := 49
theorem e_spec_Forged : Enters Try.prog 49 := ⟨Try.f49, Try.func49, by kernel_rfl, by kernel_rfl⟩
theorem i_spec_Forged {xs : List A} {res : V} {outs : List (List V)} (hl : xs.length ≤ 20) (hc : Clo xs) {c : Code} (hb : Try.f49.body = some c) (h : Run Try.prog 20 c (ini 20 xs) (Tm.Ends 20 E [(4, 4, false)] xs res outs)) : Tm.Fn Try.prog 49 xs res outs := Tm.Fn.intro Try.func49 hb rfl E_ok rfl hl hc h
abbrev n_laws_toParcel : FuncId := 50
theorem e_laws_toParcel : Enters Try.prog 50 := ⟨Try.f50, Try.func50, by kernel_rfl, by kernel_rfl⟩
theorem i_laws_toParcel {xs : List A} {res : V} {outs : List (List V)} (hl : xs.length ≤ 14) (hc : Clo xs) {c : Code} (hb : Try.f50.body = some c) (h : Run Try.prog 14 c (ini 14 xs) (Tm.Ends 14 E [(2, 73, true)] xs res outs)) : Tm.Fn Try.prog 50 xs res outs := Tm.Fn.intro Try.func50 hb rfl E_ok rfl hl hc h
abbrev n_impl_Forged : FuncId := 51
theorem e_impl_Forged : Enters Try.prog 51 := ⟨Try.f51, Try.func51, by kernel_rfl, by kernel_rfl⟩
theorem i_impl_Forged {xs : List A} {res : V} {outs : List (List V)} (hl : xs.length ≤ 22) (hc : Clo xs) {c : Code} (hb : Try.f51.body = some c) (h : Run Try.prog 22 c (ini 22 xs) (Tm.Ends 22 E [(4, 4, false)] xs res outs)) : Tm.Fn Try.prog 51 xs res outs := Tm.Fn.intro Try.func51 hb rfl E_ok rfl hl hc h
abbrev n_spec_WorkerFall : FuncId := 52
theorem e_spec_WorkerFall : Enters Try.prog 52 := ⟨Try.f52, Try.func52, by kernel_rfl, by kernel_rfl⟩
theorem i_spec_WorkerFall {xs : List A} {res : V} {outs : List (List V)} (hl : xs.length ≤ 12) (hc : Clo xs) {c : Code} (hb : Try.f52.body = some c) (h : Run Try.prog 12 c (ini 12 xs) (Tm.Ends 12 E [(2, 54, true)] xs res outs)) : Tm.Fn Try.prog 52 xs res outs := Tm.Fn.intro Try.func52 hb rfl E_ok rfl hl hc h
abbrev n_impl_WorkerFall : FuncId := 53
theorem e_impl_WorkerFall : Enters Try.prog 53 := ⟨Try.f53, Try.func53, by kernel_rfl, by kernel_rfl⟩
theorem i_impl_WorkerFall {xs : List A} {res : V} {outs : List (List V)} (hl : xs.length ≤ 11) (hc : Clo xs) {c : Code} (hb : Try.f53.body = some c) (h : Run Try.prog 11 c (ini 11 xs) (Tm.Ends 11 E [(2, 54, true)] xs res outs)) : Tm.Fn Try.prog 53 xs res outs := Tm.Fn.intro Try.func53 hb rfl E_ok rfl hl hc h
abbrev n_laws_markWorker : FuncId := 54
theorem e_laws_markWorker : Enters Try.prog 54 := ⟨Try.f54, Try.func54, by kernel_rfl, by kernel_rfl⟩
theorem i_laws_markWorker {xs : List A} {res : V} {outs : List (List V)} (hl : xs.length ≤ 10) (hc : Clo xs) {c : Code} (hb : Try.f54.body = some c) (h : Run Try.prog 10 c (ini 10 xs) (Tm.Ends 10 E [(4, 3, false)] xs res outs)) : Tm.Fn Try.prog 54 xs res outs := Tm.Fn.intro Try.func54 hb rfl E_ok rfl hl hc h
abbrev n_laws_heldWorker : FuncId := 55
theorem e_laws_heldWorker : Enters Try.prog 55 := ⟨Try.f55, Try.func55, by kernel_rfl, by kernel_rfl⟩
theorem i_laws_heldWorker {xs : List A} {res : V} {outs : List (List V)} (hl : xs.length ≤ 12) (hc : Clo xs) {c : Code} (hb : Try.f55.body = some c) (h : Run Try.prog 12 c (ini 12 xs) (Tm.Ends 12 E [(4, 3, false)] xs res outs)) : Tm.Fn Try.prog 55 xs res outs := Tm.Fn.intro Try.func55 hb rfl E_ok rfl hl hc h
abbrev n_spec_WorkerRise : FuncId := 56
theorem e_spec_WorkerRise : Enters Try.prog 56 := ⟨Try.f56, Try.func56, by kernel_rfl, by kernel_rfl⟩
theorem i_spec_WorkerRise {xs : List A} {res : V} {outs : List (List V)} (hl : xs.length ≤ 25) (hc : Clo xs) {c : Code} (hb : Try.f56.body = some c) (h : Run Try.prog 25 c (ini 25 xs) (Tm.Ends 25 E [(2, 54, true)] xs res outs)) : Tm.Fn Try.prog 56 xs res outs := Tm.Fn.intro Try.func56 hb rfl E_ok rfl hl hc h
abbrev n_impl_WorkerRise : FuncId := 57
theorem e_impl_WorkerRise : Enters Try.prog 57 := ⟨Try.f57, Try.func57, by kernel_rfl, by kernel_rfl⟩
theorem i_impl_WorkerRise {xs : List A} {res : V} {outs : List (List V)} (hl : xs.length ≤ 22) (hc : Clo xs) {c : Code} (hb : Try.f57.body = some c) (h : Run Try.prog 22 c (ini 22 xs) (Tm.Ends 22 E [(2, 54, true)] xs res outs)) : Tm.Fn Try.prog 57 xs res outs := Tm.Fn.intro Try.func57 hb rfl E_ok rfl hl hc h
abbrev n_spec_l4Ok : FuncId := 58
theorem e_spec_l4Ok : Enters Try.prog 58 := ⟨Try.f58, Try.func58, by kernel_rfl, by kernel_rfl⟩
theorem i_spec_l4Ok {xs : List A} {res : V} {outs : List (List V)} (hl : xs.length ≤ 33) (hc : Clo xs) {c : Code} (hb : Try.f58.body = some c) (h : Run Try.prog 33 c (ini 33 xs) (Tm.Ends 33 E [(2, 4, false)] xs res outs)) : Tm.Fn Try.prog 58 xs res outs := Tm.Fn.intro Try.func58 hb rfl E_ok rfl hl hc h
abbrev n_impl_Entry_valid : FuncId := 59
theorem e_impl_Entry_valid : Enters Try.prog 59 := ⟨Try.f59, Try.func59, by kernel_rfl, by kernel_rfl⟩
theorem i_impl_Entry_valid {xs : List A} {res : V} {outs : List (List V)} (hl : xs.length ≤ 31) (hc : Clo xs) {c : Code} (hb : Try.f59.body = some c) (h : Run Try.prog 31 c (ini 31 xs) (Tm.Ends 31 E [(2, 4, false)] xs res outs)) : Tm.Fn Try.prog 59 xs res outs := Tm.Fn.intro Try.func59 hb rfl E_ok rfl hl hc h
abbrev n_spec_l1Sum : FuncId := 60
theorem e_spec_l1Sum : Enters Try.prog 60 := ⟨Try.f60, Try.func60, by kernel_rfl, by kernel_rfl⟩
theorem i_spec_l1Sum {xs : List A} {res : V} {outs : List (List V)} (hl : xs.length ≤ 35) (hc : Clo xs) {c : Code} (hb : Try.f60.body = some c) (h : Run Try.prog 35 c (ini 35 xs) (Tm.Ends 35 E [(2, 9, false)] xs res outs)) : Tm.Fn Try.prog 60 xs res outs := Tm.Fn.intro Try.func60 hb rfl E_ok rfl hl hc h
abbrev n_impl_hash_bytes : FuncId := 61
theorem e_impl_hash_bytes : Enters Try.prog 61 := ⟨Try.f61, Try.func61, by kernel_rfl, by kernel_rfl⟩
theorem i_impl_hash_bytes {xs : List A} {res : V} {outs : List (List V)} (hl : xs.length ≤ 22) (hc : Clo xs) {c : Code} (hb : Try.f61.body = some c) (h : Run Try.prog 22 c (ini 22 xs) (Tm.Ends 22 E [] xs res outs)) : Tm.Fn Try.prog 61 xs res outs := Tm.Fn.intro Try.func61 hb rfl E_ok rfl hl hc h
abbrev n_impl_hash_text : FuncId := 62
theorem e_impl_hash_text : Enters Try.prog 62 := ⟨Try.f62, Try.func62, by kernel_rfl, by kernel_rfl⟩
theorem i_impl_hash_text {xs : List A} {res : V} {outs : List (List V)} (hl : xs.length ≤ 23) (hc : Clo xs) {c : Code} (hb : Try.f62.body = some c) (h : Run Try.prog 23 c (ini 23 xs) (Tm.Ends 23 E [(2, 9, false)] xs res outs)) : Tm.Fn Try.prog 62 xs res outs := Tm.Fn.intro Try.func62 hb rfl E_ok rfl hl hc h
abbrev n_spec_l6There : FuncId := 63
theorem e_spec_l6There : Enters Try.prog 63 := ⟨Try.f63, Try.func63, by kernel_rfl, by kernel_rfl⟩
theorem i_spec_l6There {xs : List A} {res : V} {outs : List (List V)} (hl : xs.length ≤ 18) (hc : Clo xs) {c : Code} (hb : Try.f63.body = some c) (h : Run Try.prog 18 c (ini 18 xs) (Tm.Ends 18 E [(4, 4, false)] xs res outs)) : Tm.Fn Try.prog 63 xs res outs := Tm.Fn.intro Try.func63 hb rfl E_ok rfl hl hc h
abbrev n_spec_l6Copy : FuncId := 64
theorem e_spec_l6Copy : Enters Try.prog 64 := ⟨Try.f64, Try.func64, by kernel_rfl, by kernel_rfl⟩
theorem i_spec_l6Copy {xs : List A} {res : V} {outs : List (List V)} (hl : xs.length ≤ 6) (hc : Clo xs) {c : Code} (hb : Try.f64.body = some c) (h : Run Try.prog 6 c (ini 6 xs) (Tm.Ends 6 E [(2, 42, false)] xs res outs)) : Tm.Fn Try.prog 64 xs res outs := Tm.Fn.intro Try.func64 hb rfl E_ok rfl hl hc h
abbrev n_impl_copied : FuncId := 65
theorem e_impl_copied : Enters Try.prog 65 := ⟨Try.f65, Try.func65, by kernel_rfl, by kernel_rfl⟩
theorem i_impl_copied {xs : List A} {res : V} {outs : List (List V)} (hl : xs.length ≤ 6) (hc : Clo xs) {c : Code} (hb : Try.f65.body = some c) (h : Run Try.prog 6 c (ini 6 xs) (Tm.Ends 6 E [(2, 42, false)] xs res outs)) : Tm.Fn Try.prog 65 xs res outs := Tm.Fn.intro Try.func65 hb rfl E_ok rfl hl hc h
abbrev n_impl_there : FuncId := 66
theorem e_impl_there : Enters Try.prog 66 := ⟨Try.f66, Try.func66, by kernel_rfl, by kernel_rfl⟩
theorem i_impl_there {xs : List A} {res : V} {outs : List (List V)} (hl : xs.length ≤ 15) (hc : Clo xs) {c : Code} (hb : Try.f66.body = some c) (h : Run Try.prog 15 c (ini 15 xs) (Tm.Ends 15 E [(4, 4, false)] xs res outs)) : Tm.Fn Try.prog 66 xs res outs := Tm.Fn.intro Try.func66 hb rfl E_ok rfl hl hc h
abbrev n_laws_eqParcel : FuncId := 67
theorem e_laws_eqParcel : Enters Try.prog 67 := ⟨Try.f67, Try.func67, by kernel_rfl, by kernel_rfl⟩
theorem i_laws_eqParcel {xs : List A} {res : V} {outs : List (List V)} (hl : xs.length ≤ 20) (hc : Clo xs) {c : Code} (hb : Try.f67.body = some c) (h : Run Try.prog 20 c (ini 20 xs) (Tm.Ends 20 E [(4, 4, false)] xs res outs)) : Tm.Fn Try.prog 67 xs res outs := Tm.Fn.intro Try.func67 hb rfl E_ok rfl hl hc h
abbrev n_laws_markText : FuncId := 68
theorem e_laws_markText : Enters Try.prog 68 := ⟨Try.f68, Try.func68, by kernel_rfl, by kernel_rfl⟩
theorem i_laws_markText {xs : List A} {res : V} {outs : List (List V)} (hl : xs.length ≤ 20) (hc : Clo xs) {c : Code} (hb : Try.f68.body = some c) (h : Run Try.prog 20 c (ini 20 xs) (Tm.Ends 20 E [(2, 9, false)] xs res outs)) : Tm.Fn Try.prog 68 xs res outs := Tm.Fn.intro Try.func68 hb rfl E_ok rfl hl hc h
abbrev n_impl_within : FuncId := 69
theorem e_impl_within : Enters Try.prog 69 := ⟨Try.f69, Try.func69, by kernel_rfl, by kernel_rfl⟩
theorem i_impl_within {xs : List A} {res : V} {outs : List (List V)} (hl : xs.length ≤ 15) (hc : Clo xs) {c : Code} (hb : Try.f69.body = some c) (h : Run Try.prog 15 c (ini 15 xs) (Tm.Ends 15 E [(6, 4, false)] xs res outs)) : Tm.Fn Try.prog 69 xs res outs := Tm.Fn.intro Try.func69 hb rfl E_ok rfl hl hc h
abbrev n_spec_l2In : FuncId := 70
theorem e_spec_l2In : Enters Try.prog 70 := ⟨Try.f70, Try.func70, by kernel_rfl, by kernel_rfl⟩
theorem i_spec_l2In {xs : List A} {res : V} {outs : List (List V)} (hl : xs.length ≤ 15) (hc : Clo xs) {c : Code} (hb : Try.f70.body = some c) (h : Run Try.prog 15 c (ini 15 xs) (Tm.Ends 15 E [(6, 4, false)] xs res outs)) : Tm.Fn Try.prog 70 xs res outs := Tm.Fn.intro Try.func70 hb rfl E_ok rfl hl hc h
abbrev n_spec_l2LeaseOk : FuncId := 71
theorem e_spec_l2LeaseOk : Enters Try.prog 71 := ⟨Try.f71, Try.func71, by kernel_rfl, by kernel_rfl⟩
theorem i_spec_l2LeaseOk {xs : List A} {res : V} {outs : List (List V)} (hl : xs.length ≤ 5) (hc : Clo xs) {c : Code} (hb : Try.f71.body = some c) (h : Run Try.prog 5 c (ini 5 xs) (Tm.Ends 5 E [(2, 4, false)] xs res outs)) : Tm.Fn Try.prog 71 xs res outs := Tm.Fn.intro Try.func71 hb rfl E_ok rfl hl hc h
abbrev n_spec_l2InputsOk : FuncId := 72
theorem e_spec_l2InputsOk : Enters Try.prog 72 := ⟨Try.f72, Try.func72, by kernel_rfl, by kernel_rfl⟩
theorem i_spec_l2InputsOk {xs : List A} {res : V} {outs : List (List V)} (hl : xs.length ≤ 19) (hc : Clo xs) {c : Code} (hb : Try.f72.body = some c) (h : Run Try.prog 19 c (ini 19 xs) (Tm.Ends 19 E [(2, 4, false)] xs res outs)) : Tm.Fn Try.prog 72 xs res outs := Tm.Fn.intro Try.func72 hb rfl E_ok rfl hl hc h
abbrev n_impl_eights : FuncId := 73
theorem e_impl_eights : Enters Try.prog 73 := ⟨Try.f73, Try.func73, by kernel_rfl, by kernel_rfl⟩
theorem i_impl_eights {xs : List A} {res : V} {outs : List (List V)} (hl : xs.length ≤ 18) (hc : Clo xs) {c : Code} (hb : Try.f73.body = some c) (h : Run Try.prog 18 c (ini 18 xs) (Tm.Ends 18 E [(2, 4, false)] xs res outs)) : Tm.Fn Try.prog 73 xs res outs := Tm.Fn.intro Try.func73 hb rfl E_ok rfl hl hc h
abbrev n_laws_szTaskS : FuncId := 74
theorem e_laws_szTaskS : Enters Try.prog 74 := ⟨Try.f74, Try.func74, by kernel_rfl, by kernel_rfl⟩
theorem i_laws_szTaskS {xs : List A} {res : V} {outs : List (List V)} (hl : xs.length ≤ 27) (hc : Clo xs) {c : Code} (hb : Try.f74.body = some c) (h : Run Try.prog 27 c (ini 27 xs) (Tm.Ends 27 E [(4, 3, false)] xs res outs)) : Tm.Fn Try.prog 74 xs res outs := Tm.Fn.intro Try.func74 hb rfl E_ok rfl hl hc h
abbrev n_spec_l1NameOk : FuncId := 75
theorem e_spec_l1NameOk : Enters Try.prog 75 := ⟨Try.f75, Try.func75, by kernel_rfl, by kernel_rfl⟩
theorem i_spec_l1NameOk {xs : List A} {res : V} {outs : List (List V)} (hl : xs.length ≤ 28) (hc : Clo xs) {c : Code} (hb : Try.f75.body = some c) (h : Run Try.prog 28 c (ini 28 xs) (Tm.Ends 28 E [(2, 4, false)] xs res outs)) : Tm.Fn Try.prog 75 xs res outs := Tm.Fn.intro Try.func75 hb rfl E_ok rfl hl hc h
abbrev n_laws_toTaskS : FuncId := 76
theorem e_laws_toTaskS : Enters Try.prog 76 := ⟨Try.f76, Try.func76, by kernel_rfl, by kernel_rfl⟩
theorem i_laws_toTaskS {xs : List A} {res : V} {outs : List (List V)} (hl : xs.length ≤ 23) (hc : Clo xs) {c : Code} (hb : Try.f76.body = some c) (h : Run Try.prog 23 c (ini 23 xs) (Tm.Ends 23 E [(2, 63, false)] xs res outs)) : Tm.Fn Try.prog 76 xs res outs := Tm.Fn.intro Try.func76 hb rfl E_ok rfl hl hc h
abbrev n_impl_plain : FuncId := 77
theorem e_impl_plain : Enters Try.prog 77 := ⟨Try.f77, Try.func77, by kernel_rfl, by kernel_rfl⟩
theorem i_impl_plain {xs : List A} {res : V} {outs : List (List V)} (hl : xs.length ≤ 28) (hc : Clo xs) {c : Code} (hb : Try.f77.body = some c) (h : Run Try.prog 28 c (ini 28 xs) (Tm.Ends 28 E [(2, 4, false)] xs res outs)) : Tm.Fn Try.prog 77 xs res outs := Tm.Fn.intro Try.func77 hb rfl E_ok rfl hl hc h
abbrev n_laws_eqTaskS : FuncId := 78
theorem e_laws_eqTaskS : Enters Try.prog 78 := ⟨Try.f78, Try.func78, by kernel_rfl, by kernel_rfl⟩
theorem i_laws_eqTaskS {xs : List A} {res : V} {outs : List (List V)} (hl : xs.length ≤ 27) (hc : Clo xs) {c : Code} (hb : Try.f78.body = some c) (h : Run Try.prog 27 c (ini 27 xs) (Tm.Ends 27 E [(4, 4, false)] xs res outs)) : Tm.Fn Try.prog 78 xs res outs := Tm.Fn.intro Try.func78 hb rfl E_ok rfl hl hc h
abbrev n_spec_ReadMessage : FuncId := 79
theorem e_spec_ReadMessage : Enters Try.prog 79 := ⟨Try.f79, Try.func79, by kernel_rfl, by kernel_rfl⟩
theorem i_spec_ReadMessage {xs : List A} {res : V} {outs : List (List V)} (hl : xs.length ≤ 81) (hc : Clo xs) {c : Code} (hb : Try.f79.body = some c) (h : Run Try.prog 81 c (ini 81 xs) (Tm.Ends 81 E [(4, 101, true), (5, 4, false)] xs res outs)) : Tm.Fn Try.prog 79 xs res outs := Tm.Fn.intro Try.func79 hb rfl E_ok rfl hl hc h
abbrev n_impl_ReadMessage : FuncId := 80
theorem e_impl_ReadMessage : Enters Try.prog 80 := ⟨Try.f80, Try.func80, by kernel_rfl, by kernel_rfl⟩
theorem i_impl_ReadMessage {xs : List A} {res : V} {outs : List (List V)} (hl : xs.length ≤ 107) (hc : Clo xs) {c : Code} (hb : Try.f80.body = some c) (h : Run Try.prog 107 c (ini 107 xs) (Tm.Ends 107 E [(4, 101, true), (5, 4, false)] xs res outs)) : Tm.Fn Try.prog 80 xs res outs := Tm.Fn.intro Try.func80 hb rfl E_ok rfl hl hc h
abbrev n_spec_l3Free : FuncId := 81
theorem e_spec_l3Free : Enters Try.prog 81 := ⟨Try.f81, Try.func81, by kernel_rfl, by kernel_rfl⟩
theorem i_spec_l3Free {xs : List A} {res : V} {outs : List (List V)} (hl : xs.length ≤ 13) (hc : Clo xs) {c : Code} (hb : Try.f81.body = some c) (h : Run Try.prog 13 c (ini 13 xs) (Tm.Ends 13 E [(4, 54, true)] xs res outs)) : Tm.Fn Try.prog 81 xs res outs := Tm.Fn.intro Try.func81 hb rfl E_ok rfl hl hc h
abbrev n_impl_Worker_freed : FuncId := 82
theorem e_impl_Worker_freed : Enters Try.prog 82 := ⟨Try.f82, Try.func82, by kernel_rfl, by kernel_rfl⟩
theorem i_impl_Worker_freed {xs : List A} {res : V} {outs : List (List V)} (hl : xs.length ≤ 13) (hc : Clo xs) {c : Code} (hb : Try.f82.body = some c) (h : Run Try.prog 13 c (ini 13 xs) (Tm.Ends 13 E [(4, 54, true)] xs res outs)) : Tm.Fn Try.prog 82 xs res outs := Tm.Fn.intro Try.func82 hb rfl E_ok rfl hl hc h
abbrev n_laws_markStringS : FuncId := 83
theorem e_laws_markStringS : Enters Try.prog 83 := ⟨Try.f83, Try.func83, by kernel_rfl, by kernel_rfl⟩
theorem i_laws_markStringS {xs : List A} {res : V} {outs : List (List V)} (hl : xs.length ≤ 20) (hc : Clo xs) {c : Code} (hb : Try.f83.body = some c) (h : Run Try.prog 20 c (ini 20 xs) (Tm.Ends 20 E [(4, 3, false)] xs res outs)) : Tm.Fn Try.prog 83 xs res outs := Tm.Fn.intro Try.func83 hb rfl E_ok rfl hl hc h
abbrev n_laws_heldStringS : FuncId := 84
theorem e_laws_heldStringS : Enters Try.prog 84 := ⟨Try.f84, Try.func84, by kernel_rfl, by kernel_rfl⟩
theorem i_laws_heldStringS {xs : List A} {res : V} {outs : List (List V)} (hl : xs.length ≤ 22) (hc : Clo xs) {c : Code} (hb : Try.f84.body = some c) (h : Run Try.prog 22 c (ini 22 xs) (Tm.Ends 22 E [(4, 3, false)] xs res outs)) : Tm.Fn Try.prog 84 xs res outs := Tm.Fn.intro Try.func84 hb rfl E_ok rfl hl hc h
abbrev n_spec_l3Copy : FuncId := 85
theorem e_spec_l3Copy : Enters Try.prog 85 := ⟨Try.f85, Try.func85, by kernel_rfl, by kernel_rfl⟩
theorem i_spec_l3Copy {xs : List A} {res : V} {outs : List (List V)} (hl : xs.length ≤ 9) (hc : Clo xs) {c : Code} (hb : Try.f85.body = some c) (h : Run Try.prog 9 c (ini 9 xs) (Tm.Ends 9 E [(2, 54, true)] xs res outs)) : Tm.Fn Try.prog 85 xs res outs := Tm.Fn.intro Try.func85 hb rfl E_ok rfl hl hc h
abbrev n_impl_Worker_twin : FuncId := 86
theorem e_impl_Worker_twin : Enters Try.prog 86 := ⟨Try.f86, Try.func86, by kernel_rfl, by kernel_rfl⟩
theorem i_impl_Worker_twin {xs : List A} {res : V} {outs : List (List V)} (hl : xs.length ≤ 8) (hc : Clo xs) {c : Code} (hb : Try.f86.body = some c) (h : Run Try.prog 8 c (ini 8 xs) (Tm.Ends 8 E [(2, 54, true)] xs res outs)) : Tm.Fn Try.prog 86 xs res outs := Tm.Fn.intro Try.func86 hb rfl E_ok rfl hl hc h
abbrev n_laws_szTask : FuncId := 87
theorem e_laws_szTask : Enters Try.prog 87 := ⟨Try.f87, Try.func87, by kernel_rfl, by kernel_rfl⟩
theorem i_laws_szTask {xs : List A} {res : V} {outs : List (List V)} (hl : xs.length ≤ 19) (hc : Clo xs) {c : Code} (hb : Try.f87.body = some c) (h : Run Try.prog 19 c (ini 19 xs) (Tm.Ends 19 E [(4, 3, false)] xs res outs)) : Tm.Fn Try.prog 87 xs res outs := Tm.Fn.intro Try.func87 hb rfl E_ok rfl hl hc h
abbrev n_laws_toTask : FuncId := 88
theorem e_laws_toTask : Enters Try.prog 88 := ⟨Try.f88, Try.func88, by kernel_rfl, by kernel_rfl⟩
theorem i_laws_toTask {xs : List A} {res : V} {outs : List (List V)} (hl : xs.length ≤ 15) (hc : Clo xs) {c : Code} (hb : Try.f88.body = some c) (h : Run Try.prog 15 c (ini 15 xs) (Tm.Ends 15 E [(2, 96, true)] xs res outs)) : Tm.Fn Try.prog 88 xs res outs := Tm.Fn.intro Try.func88 hb rfl E_ok rfl hl hc h
abbrev n_laws_eqTask : FuncId := 89
theorem e_laws_eqTask : Enters Try.prog 89 := ⟨Try.f89, Try.func89, by kernel_rfl, by kernel_rfl⟩
theorem i_laws_eqTask {xs : List A} {res : V} {outs : List (List V)} (hl : xs.length ≤ 21) (hc : Clo xs) {c : Code} (hb : Try.f89.body = some c) (h : Run Try.prog 21 c (ini 21 xs) (Tm.Ends 21 E [(4, 4, false)] xs res outs)) : Tm.Fn Try.prog 89 xs res outs := Tm.Fn.intro Try.func89 hb rfl E_ok rfl hl hc h
abbrev n_spec_FormMessage : FuncId := 90
theorem e_spec_FormMessage : Enters Try.prog 90 := ⟨Try.f90, Try.func90, by kernel_rfl, by kernel_rfl⟩
theorem i_spec_FormMessage {xs : List A} {res : V} {outs : List (List V)} (hl : xs.length ≤ 23) (hc : Clo xs) {c : Code} (hb : Try.f90.body = some c) (h : Run Try.prog 23 c (ini 23 xs) (Tm.Ends 23 E [(4, 9, false)] xs res outs)) : Tm.Fn Try.prog 90 xs res outs := Tm.Fn.intro Try.func90 hb rfl E_ok rfl hl hc h
abbrev n_impl_seal : FuncId := 91
theorem e_impl_seal : Enters Try.prog 91 := ⟨Try.f91, Try.func91, by kernel_rfl, by kernel_rfl⟩
theorem i_impl_seal {xs : List A} {res : V} {outs : List (List V)} (hl : xs.length ≤ 13) (hc : Clo xs) {c : Code} (hb : Try.f91.body = some c) (h : Run Try.prog 13 c (ini 13 xs) (Tm.Ends 13 E [(4, 9, false)] xs res outs)) : Tm.Fn Try.prog 91 xs res outs := Tm.Fn.intro Try.func91 hb rfl E_ok rfl hl hc h
abbrev n_impl_Message_valid : FuncId := 92
theorem e_impl_Message_valid : Enters Try.prog 92 := ⟨Try.f92, Try.func92, by kernel_rfl, by kernel_rfl⟩
theorem i_impl_Message_valid {xs : List A} {res : V} {outs : List (List V)} (hl : xs.length ≤ 108) (hc : Clo xs) {c : Code} (hb : Try.f92.body = some c) (h : Run Try.prog 108 c (ini 108 xs) (Tm.Ends 108 E [(2, 4, false)] xs res outs)) : Tm.Fn Try.prog 92 xs res outs := Tm.Fn.intro Try.func92 hb rfl E_ok rfl hl hc h
abbrev n_impl_clone : FuncId := 93
theorem e_impl_clone : Enters Try.prog 93 := ⟨Try.f93, Try.func93, by kernel_rfl, by kernel_rfl⟩
theorem i_impl_clone {xs : List A} {res : V} {outs : List (List V)} (hl : xs.length ≤ 6) (hc : Clo xs) {c : Code} (hb : Try.f93.body = some c) (h : Run Try.prog 6 c (ini 6 xs) (Tm.Ends 6 E [(2, 34, false)] xs res outs)) : Tm.Fn Try.prog 93 xs res outs := Tm.Fn.intro Try.func93 hb rfl E_ok rfl hl hc h
abbrev n_laws_szIntS : FuncId := 94
theorem e_laws_szIntS : Enters Try.prog 94 := ⟨Try.f94, Try.func94, by kernel_rfl, by kernel_rfl⟩
theorem i_laws_szIntS {xs : List A} {res : V} {outs : List (List V)} (hl : xs.length ≤ 12) (hc : Clo xs) {c : Code} (hb : Try.f94.body = some c) (h : Run Try.prog 12 c (ini 12 xs) (Tm.Ends 12 E [(4, 3, false)] xs res outs)) : Tm.Fn Try.prog 94 xs res outs := Tm.Fn.intro Try.func94 hb rfl E_ok rfl hl hc h
abbrev n_laws_toIntS : FuncId := 95
theorem e_laws_toIntS : Enters Try.prog 95 := ⟨Try.f95, Try.func95, by kernel_rfl, by kernel_rfl⟩
theorem i_laws_toIntS {xs : List A} {res : V} {outs : List (List V)} (hl : xs.length ≤ 22) (hc : Clo xs) {c : Code} (hb : Try.f95.body = some c) (h : Run Try.prog 22 c (ini 22 xs) (Tm.Ends 22 E [(2, 94, false)] xs res outs)) : Tm.Fn Try.prog 95 xs res outs := Tm.Fn.intro Try.func95 hb rfl E_ok rfl hl hc h
abbrev n_laws_eqIntS : FuncId := 96
theorem e_laws_eqIntS : Enters Try.prog 96 := ⟨Try.f96, Try.func96, by kernel_rfl, by kernel_rfl⟩
theorem i_laws_eqIntS {xs : List A} {res : V} {outs : List (List V)} (hl : xs.length ≤ 26) (hc : Clo xs) {c : Code} (hb : Try.f96.body = some c) (h : Run Try.prog 26 c (ini 26 xs) (Tm.Ends 26 E [(4, 4, false)] xs res outs)) : Tm.Fn Try.prog 96 xs res outs := Tm.Fn.intro Try.func96 hb rfl E_ok rfl hl hc h
abbrev n_spec_l2Ok : FuncId := 97
theorem e_spec_l2Ok : Enters Try.prog 97 := ⟨Try.f97, Try.func97, by kernel_rfl, by kernel_rfl⟩
theorem i_spec_l2Ok {xs : List A} {res : V} {outs : List (List V)} (hl : xs.length ≤ 120) (hc : Clo xs) {c : Code} (hb : Try.f97.body = some c) (h : Run Try.prog 120 c (ini 120 xs) (Tm.Ends 120 E [(2, 4, false)] xs res outs)) : Tm.Fn Try.prog 97 xs res outs := Tm.Fn.intro Try.func97 hb rfl E_ok rfl hl hc h
abbrev n_spec_l2Body : FuncId := 98
theorem e_spec_l2Body : Enters Try.prog 98 := ⟨Try.f98, Try.func98, by kernel_rfl, by kernel_rfl⟩
theorem i_spec_l2Body {xs : List A} {res : V} {outs : List (List V)} (hl : xs.length ≤ 67) (hc : Clo xs) {c : Code} (hb : Try.f98.body = some c) (h : Run Try.prog 67 c (ini 67 xs) (Tm.Ends 67 E [(2, 9, false)] xs res outs)) : Tm.Fn Try.prog 98 xs res outs := Tm.Fn.intro Try.func98 hb rfl E_ok rfl hl hc h
abbrev n_spec_l2Uses : FuncId := 99
theorem e_spec_l2Uses : Enters Try.prog 99 := ⟨Try.f99, Try.func99, by kernel_rfl, by kernel_rfl⟩
theorem i_spec_l2Uses {xs : List A} {res : V} {outs : List (List V)} (hl : xs.length ≤ 16) (hc : Clo xs) {c : Code} (hb : Try.f99.body = some c) (h : Run Try.prog 16 c (ini 16 xs) (Tm.Ends 16 E [(2, 4, false), (3, 4, false), (4, 4, false), (5, 4, false), (6, 4, false)] xs res outs)) : Tm.Fn Try.prog 99 xs res outs := Tm.Fn.intro Try.func99 hb rfl E_ok rfl hl hc h
end Go.K

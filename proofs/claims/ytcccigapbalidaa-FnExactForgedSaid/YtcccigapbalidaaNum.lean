/- Contracts of functions of the program: what each call answers. -/
import Derived.Test.YtcccigapbalidaaTmc
import Derived.Test.YtcccigapbalidaaProg
set_option linter.unusedVariables false
set_option linter.unusedSimpArgs false
open Go Go.Tm Go.Proofs
namespace Go.K
def E : Env := (.node (.node (.node (.node (.node (.node .nil 2 ⟨(.int .i64), [.t (.v (.int .i64 0))], 8⟩ .nil) 3 ⟨(.int .i64), [.t (.v (.int .i64 0))], 8⟩ (.node .nil 4 ⟨.bool, [.b false], 1⟩ .nil)) 5 ⟨(.int .u8), [.t (.v (.int .u8 0))], 1⟩ (.node (.node .nil 6 ⟨(.int .u8), [.t (.v (.int .u8 0))], 1⟩ .nil) 7 ⟨(.struct [(0, 2), (1, 3), (2, 4), (3, 6)]), [.t (.v (.int .i64 0)), .t (.v (.int .i64 0)), .b false, .t (.v (.int .u8 0))], 24⟩ .nil)) 9 ⟨.str, [.s ⟨#[]⟩], 16⟩ (.node (.node (.node .nil 12 ⟨(.int .u64), [.t (.v (.int .u64 0))], 8⟩ .nil) 13 ⟨(.struct [(0, 9), (1, 12)]), [.s ⟨#[]⟩, .t (.v (.int .u64 0))], 24⟩ .nil) 17 ⟨(.ptr 135), [.t (.v (.pointer none))], 8⟩ (.node (.node .nil 18 ⟨(.struct [(0, 17)]), [.t (.v (.pointer none))], 8⟩ .nil) 19 ⟨(.struct [(0, 17)]), [.t (.v (.pointer none))], 8⟩ .nil))) 21 ⟨(.int .i32), [.t (.v (.int .i32 0))], 4⟩ (.node (.node (.node (.node .nil 23 ⟨(.struct [(0, 3), (1, 3), (2, 3), (3, 9)]), [.t (.v (.int .i64 0)), .t (.v (.int .i64 0)), .t (.v (.int .i64 0)), .s ⟨#[]⟩], 40⟩ .nil) 24 ⟨(.struct [(0, 3), (1, 3), (2, 3), (3, 9)]), [.t (.v (.int .i64 0)), .t (.v (.int .i64 0)), .t (.v (.int .i64 0)), .s ⟨#[]⟩], 40⟩ (.node .nil 27 ⟨(.struct [(0, 3), (1, 3), (2, 3), (3, 9)]), [.t (.v (.int .i64 0)), .t (.v (.int .i64 0)), .t (.v (.int .i64 0)), .s ⟨#[]⟩], 40⟩ .nil)) 34 ⟨(.slice 9), [.own [false] []], 24⟩ (.node (.node .nil 40 ⟨(.slice 70), [.own [false, false, false] []], 24⟩ .nil) 42 ⟨(.slice 73), [.own [false, false, false] []], 24⟩ .nil)) 50 ⟨(.struct [(0, 3), (1, 3), (2, 4), (3, 3), (4, 3), (5, 3), (6, 3), (7, 3), (8, 34), (9, 9), (10, 3)]), [.t (.v (.int .i64 0)), .t (.v (.int .i64 0)), .b false, .t (.v (.int .i64 0)), .t (.v (.int .i64 0)), .t (.v (.int .i64 0)), .t (.v (.int .i64 0)), .t (.v (.int .i64 0)), .own [false] [], .s ⟨#[]⟩, .t (.v (.int .i64 0))], 112⟩ (.node (.node (.node .nil 51 ⟨(.struct [(0, 3), (1, 3), (2, 4), (3, 3), (4, 3), (5, 3), (6, 3), (7, 3), (8, 34), (9, 9), (10, 3)]), [.t (.v (.int .i64 0)), .t (.v (.int .i64 0)), .b false, .t (.v (.int .i64 0)), .t (.v (.int .i64 0)), .t (.v (.int .i64 0)), .t (.v (.int .i64 0)), .t (.v (.int .i64 0)), .own [false] [], .s ⟨#[]⟩, .t (.v (.int .i64 0))], 112⟩ .nil) 54 ⟨(.struct [(0, 3), (1, 3), (2, 4), (3, 3), (4, 3), (5, 3), (6, 3), (7, 3), (8, 34), (9, 9), (10, 3)]), [.t (.v (.int .i64 0)), .t (.v (.int .i64 0)), .b false, .t (.v (.int .i64 0)), .t (.v (.int .i64 0)), .t (.v (.int .i64 0)), .t (.v (.int .i64 0)), .t (.v (.int .i64 0)), .own [false] [], .s ⟨#[]⟩, .t (.v (.int .i64 0))], 112⟩ .nil) 58 ⟨(.slice 109), [.own [false, false, true] []], 24⟩ (.node (.node .nil 59 ⟨(.struct [(0, 58)]), [.own [false, false, true] []], 24⟩ .nil) 60 ⟨(.struct [(0, 58)]), [.own [false, false, true] []], 24⟩ .nil)))) 63 ⟨(.slice 96), [.own [false, false, true] []], 24⟩ (.node (.node (.node (.node (.node .nil 64 ⟨(.struct [(0, 63)]), [.own [false, false, true] []], 24⟩ .nil) 65 ⟨(.struct [(0, 63)]), [.own [false, false, true] []], 24⟩ (.node .nil 69 ⟨(.struct [(0, 3), (1, 9), (2, 9)]), [.t (.v (.int .i64 0)), .s ⟨#[]⟩, .s ⟨#[]⟩], 40⟩ .nil)) 70 ⟨(.struct [(0, 3), (1, 9), (2, 9)]), [.t (.v (.int .i64 0)), .s ⟨#[]⟩, .s ⟨#[]⟩], 40⟩ (.node (.node .nil 73 ⟨(.struct [(0, 3), (1, 9), (2, 9)]), [.t (.v (.int .i64 0)), .s ⟨#[]⟩, .s ⟨#[]⟩], 40⟩ .nil) 79 ⟨(.slice 5), [.own [false] []], 24⟩ .nil)) 80 ⟨(.int .u64), [.t (.v (.int .u64 0))], 8⟩ (.node (.node (.node .nil 82 ⟨(.int .u64), [.t (.v (.int .u64 0))], 8⟩ .nil) 83 ⟨(.int .u64), [.t (.v (.int .u64 0))], 8⟩ .nil) 94 ⟨(.slice 3), [.own [false] []], 24⟩ (.node (.node .nil 95 ⟨(.struct [(0, 9), (1, 3), (2, 94)]), [.s ⟨#[]⟩, .t (.v (.int .i64 0)), .own [false] []], 48⟩ .nil) 96 ⟨(.struct [(0, 9), (1, 3), (2, 94)]), [.s ⟨#[]⟩, .t (.v (.int .i64 0)), .own [false] []], 48⟩ .nil))) 98 ⟨(.map 9 4), [.t (.v (.map none))], 8⟩ (.node (.node (.node (.node .nil 100 ⟨(.struct [(0, 3), (1, 3), (2, 3), (3, 3), (4, 3), (5, 3), (6, 9), (7, 34)]), [.t (.v (.int .i64 0)), .t (.v (.int .i64 0)), .t (.v (.int .i64 0)), .t (.v (.int .i64 0)), .t (.v (.int .i64 0)), .t (.v (.int .i64 0)), .s ⟨#[]⟩, .own [false] []], 88⟩ .nil) 101 ⟨(.struct [(0, 3), (1, 3), (2, 3), (3, 3), (4, 3), (5, 3), (6, 9), (7, 34)]), [.t (.v (.int .i64 0)), .t (.v (.int .i64 0)), .t (.v (.int .i64 0)), .t (.v (.int .i64 0)), .t (.v (.int .i64 0)), .t (.v (.int .i64 0)), .s ⟨#[]⟩, .own [false] []], 88⟩ .nil) 107 ⟨(.ptr 83), [.t (.v (.pointer none))], 8⟩ (.node (.node .nil 109 ⟨(.struct [(0, 9), (1, 3), (2, 94)]), [.s ⟨#[]⟩, .t (.v (.int .i64 0)), .own [false] []], 48⟩ .nil) 121 ⟨(.struct [(0, 17), (1, 17), (2, 17), (3, 9)]), [.t (.v (.pointer none)), .t (.v (.pointer none)), .t (.v (.pointer none)), .s ⟨#[]⟩], 40⟩ .nil)) 127 ⟨(.int .u32), [.t (.v (.int .u32 0))], 4⟩ (.node (.node (.node .nil 128 ⟨(.int .u8), [.t (.v (.int .u8 0))], 1⟩ .nil) 129 ⟨(.int .u8), [.t (.v (.int .u8 0))], 1⟩ .nil) 131 ⟨(.ptr 5), [.t (.v (.pointer none))], 8⟩ (.node (.node .nil 132 ⟨(.int .i32), [.t (.v (.int .i32 0))], 4⟩ .nil) 133 ⟨(.int .i32), [.t (.v (.int .i32 0))], 4⟩ .nil)))))
set_option maxRecDepth 10000 in
theorem E_ok : EnvOk Try.prog E := by
  unfold E
  repeat (first | exact EnvOk.nil | refine EnvOk.node ?_ ⟨by kernel_rfl, by kernel_rfl, by simp, by simp [zcOk, sc], by simp [Ty.agg], by simp, by simp, by simp⟩ ?_)
def md (f : FuncId) : List Md := (bif Nat.blt f 51 then (bif Nat.blt f 27 then (bif Nat.blt f 15 then (bif Nat.blt f 9 then (bif Nat.blt f 6 then (bif Nat.blt f 4 then [] else (bif Nat.blt f 5 then [.v] else [.v])) else (bif Nat.blt f 7 then [.v, .v] else (bif Nat.blt f 8 then [.v, .v] else [.v, .v]))) else (bif Nat.blt f 12 then (bif Nat.blt f 10 then [.v, .v, .v, .v] else (bif Nat.blt f 11 then [.v] else [.v])) else (bif Nat.blt f 13 then [.v, .v] else (bif Nat.blt f 14 then [.v] else [.v])))) else (bif Nat.blt f 21 then (bif Nat.blt f 18 then (bif Nat.blt f 16 then [.v, .v] else (bif Nat.blt f 17 then [.v] else [.v])) else (bif Nat.blt f 19 then [.v] else (bif Nat.blt f 20 then [.v] else [.v]))) else (bif Nat.blt f 24 then (bif Nat.blt f 22 then [.v, .v] else (bif Nat.blt f 23 then [.v, .v] else [.v, .v])) else (bif Nat.blt f 25 then [.v] else (bif Nat.blt f 26 then [.v, .v] else [.v, .v]))))) else (bif Nat.blt f 39 then (bif Nat.blt f 33 then (bif Nat.blt f 30 then (bif Nat.blt f 28 then [.v, .v] else (bif Nat.blt f 29 then [.v, .v] else [.v])) else (bif Nat.blt f 31 then [.v, .v] else (bif Nat.blt f 32 then [.v, .v] else [.b, .v]))) else (bif Nat.blt f 36 then (bif Nat.blt f 34 then [.v, .v] else (bif Nat.blt f 35 then [.v, .v] else [.v, .v])) else (bif Nat.blt f 37 then [.v, .v, .v, .v] else (bif Nat.blt f 38 then [.v, .v, .v, .v] else [.v, .v])))) else (bif Nat.blt f 45 then (bif Nat.blt f 42 then (bif Nat.blt f 40 then [.v] else (bif Nat.blt f 41 then [.v] else [.v])) else (bif Nat.blt f 43 then [.v, .v] else (bif Nat.blt f 44 then [.v, .v] else [.v]))) else (bif Nat.blt f 48 then (bif Nat.blt f 46 then [.v] else (bif Nat.blt f 47 then [.v] else [.v, .v])) else (bif Nat.blt f 49 then [.v, .v] else (bif Nat.blt f 50 then [.v, .v] else [.v])))))) else (bif Nat.blt f 75 then (bif Nat.blt f 63 then (bif Nat.blt f 57 then (bif Nat.blt f 54 then (bif Nat.blt f 52 then [.v, .v] else (bif Nat.blt f 53 then [.v] else [.v])) else (bif Nat.blt f 55 then [.b, .v] else (bif Nat.blt f 56 then [.v, .v] else [.v]))) else (bif Nat.blt f 60 then (bif Nat.blt f 58 then [.v] else (bif Nat.blt f 59 then [.v] else [.v])) else (bif Nat.blt f 61 then [.v] else (bif Nat.blt f 62 then [.p, .v] else [.v])))) else (bif Nat.blt f 69 then (bif Nat.blt f 66 then (bif Nat.blt f 64 then [.v, .v] else (bif Nat.blt f 65 then [.v] else [.v])) else (bif Nat.blt f 67 then [.v, .v] else (bif Nat.blt f 68 then [.v, .v] else [.v]))) else (bif Nat.blt f 72 then (bif Nat.blt f 70 then [.v, .v, .v] else (bif Nat.blt f 71 then [.v, .v, .v] else [.v])) else (bif Nat.blt f 73 then [.v] else (bif Nat.blt f 74 then [.v] else [.v, .v]))))) else (bif Nat.blt f 87 then (bif Nat.blt f 81 then (bif Nat.blt f 78 then (bif Nat.blt f 76 then [.v] else (bif Nat.blt f 77 then [.v] else [.v])) else (bif Nat.blt f 79 then [.v, .v] else (bif Nat.blt f 80 then [.v, .v] else [.v, .v]))) else (bif Nat.blt f 84 then (bif Nat.blt f 82 then [.v, .v] else (bif Nat.blt f 83 then [.v, .v] else [.b, .v])) else (bif Nat.blt f 85 then [.v, .v] else (bif Nat.blt f 86 then [.v] else [.v])))) else (bif Nat.blt f 93 then (bif Nat.blt f 90 then (bif Nat.blt f 88 then [.v, .v] else (bif Nat.blt f 89 then [.v] else [.v, .v])) else (bif Nat.blt f 91 then [.v, .v] else (bif Nat.blt f 92 then [.v, .v] else [.v]))) else (bif Nat.blt f 96 then (bif Nat.blt f 94 then [.v] else (bif Nat.blt f 95 then [.v, .v] else [.v])) else (bif Nat.blt f 98 then (bif Nat.blt f 97 then [.v, .v] else [.v]) else (bif Nat.blt f 99 then [.v] else [.v])))))))
def sq (t : TypeId) : Bool := false
theorem sq_ok : ∀ t, sq t = true → SqOk Try.prog t := fun t h => by cases h
def F (f : FuncId) (xs : List A) (res : V) (outs : List (List V)) : Prop := Enters Try.prog f ∧ Tm.Fn Try.prog f xs res outs
def C : Cx := ⟨E, F, md, sq⟩
theorem C_ok : CxOk Try.prog C := ⟨E_ok, sq_ok, fun _ _ _ _ h => h⟩
variable {nt id : Nat} {ops : Array Oper} {y : Code} {H : HD} {Q : Exit → HD → Prop}
theorem g (lo hi : Nat) (ans : List Ans) (h : evSH C nt ops ops.toList ans H fun p H => dropH lo hi H fun H => p ∧ W Try.prog nt y H Q) : W Try.prog nt (.seq (.region id ops false) y) H Q := W.sg C_ok lo hi ans h
theorem rg (ans : List Ans) (h : evSH C nt ops ops.toList ans H fun p H => p ∧ Q .normal H) : W Try.prog nt (.region id ops false) H Q := W.rg C_ok ans h
theorem mixed : Try.prog.follows .mixedOrders = true := by kernel_rfl
theorem gd (lo hi : Nat) (ans : List (List Ans)) (h : evEH C nt ops ops.toList ans H fun p r H => dropH lo hi H fun H => p ∧ chkE ops.toList r = true ∧ W Try.prog nt y H Q) : W Try.prog nt (.seq (.region id ops true) y) H Q := W.sgD C_ok mixed lo hi ans h
theorem rgd (ans : List (List Ans)) (h : evEH C nt ops ops.toList ans H fun p r H => p ∧ chkE ops.toList r = true ∧ Q .normal H) : W Try.prog nt (.region id ops true) H Q := W.rgD C_ok mixed ans h
abbrev Q1 (res : V) (outs : List (List V)) : V → List (List V) → Prop := fun r o => r = res ∧ o = outs
abbrev ty_laws_Entry : TypeId := 24
abbrev ty_laws_Worker : TypeId := 51
abbrev ty_laws_Plan : TypeId := 60
abbrev ty_laws_Parcel : TypeId := 70
abbrev ty_laws_Task : TypeId := 109
abbrev n_laws_FnExactConstants : FuncId := 3
theorem e_laws_FnExactConstants : Enters Try.prog 3 := ⟨Try.f3, Try.func3, by kernel_rfl, by kernel_rfl⟩
theorem i_laws_FnExactConstants {xs : List A} {res : V} {outs : List (List V)} (hrun : forceH (iniH 1 xs) fun H => W Try.prog 1 (bodyOf Try.f3) H (EndsW 1 E [(0, 4, false)] xs (Q1 res outs))) (h : (okAs xs && Nat.ble xs.length 1) = true := by rfl) : F 3 xs res outs := ⟨e_laws_FnExactConstants, Fn.one Try.func3 rfl rfl E_ok rfl h hrun⟩
abbrev n_laws_FnExactFormEntry : FuncId := 4
theorem e_laws_FnExactFormEntry : Enters Try.prog 4 := ⟨Try.f4, Try.func4, by kernel_rfl, by kernel_rfl⟩
theorem i_laws_FnExactFormEntry {xs : List A} {res : V} {outs : List (List V)} (hrun : forceH (iniH 20 xs) fun H => W Try.prog 20 (bodyOf Try.f4) H (EndsW 20 E [(2, 4, false)] xs (Q1 res outs))) (h : (okAs xs && Nat.ble xs.length 20) = true := by rfl) : F 4 xs res outs := ⟨e_laws_FnExactFormEntry, Fn.one Try.func4 rfl rfl E_ok rfl h hrun⟩
abbrev n_laws_FnExactReadEntry : FuncId := 5
theorem e_laws_FnExactReadEntry : Enters Try.prog 5 := ⟨Try.f5, Try.func5, by kernel_rfl, by kernel_rfl⟩
theorem i_laws_FnExactReadEntry {xs : List A} {res : V} {outs : List (List V)} (hrun : forceH (iniH 29 xs) fun H => W Try.prog 29 (bodyOf Try.f5) H (EndsW 29 E [(2, 4, false)] xs (Q1 res outs))) (h : (okAs xs && Nat.ble xs.length 29) = true := by rfl) : F 5 xs res outs := ⟨e_laws_FnExactReadEntry, Fn.one Try.func5 rfl rfl E_ok rfl h hrun⟩
abbrev n_laws_FnExactValue : FuncId := 6
theorem e_laws_FnExactValue : Enters Try.prog 6 := ⟨Try.f6, Try.func6, by kernel_rfl, by kernel_rfl⟩
theorem i_laws_FnExactValue {xs : List A} {res : V} {outs : List (List V)} (hrun : forceH (iniH 34 xs) fun H => W Try.prog 34 (bodyOf Try.f6) H (EndsW 34 E [(4, 4, false)] xs (Q1 res outs))) (h : (okAs xs && Nat.ble xs.length 34) = true := by rfl) : F 6 xs res outs := ⟨e_laws_FnExactValue, Fn.one Try.func6 rfl rfl E_ok rfl h hrun⟩
abbrev n_laws_FnExactLose : FuncId := 7
theorem e_laws_FnExactLose : Enters Try.prog 7 := ⟨Try.f7, Try.func7, by kernel_rfl, by kernel_rfl⟩
theorem i_laws_FnExactLose {xs : List A} {res : V} {outs : List (List V)} (hrun : forceH (iniH 74 xs) fun H => W Try.prog 74 (bodyOf Try.f7) H (EndsW 74 E [(4, 4, false)] xs (Q1 res outs))) (h : (okAs xs && Nat.ble xs.length 74) = true := by rfl) : F 7 xs res outs := ⟨e_laws_FnExactLose, Fn.one Try.func7 rfl rfl E_ok rfl h hrun⟩
abbrev n_laws_FnExactDouble : FuncId := 8
theorem e_laws_FnExactDouble : Enters Try.prog 8 := ⟨Try.f8, Try.func8, by kernel_rfl, by kernel_rfl⟩
theorem i_laws_FnExactDouble {xs : List A} {res : V} {outs : List (List V)} (hrun : forceH (iniH 74 xs) fun H => W Try.prog 74 (bodyOf Try.f8) H (EndsW 74 E [(4, 4, false)] xs (Q1 res outs))) (h : (okAs xs && Nat.ble xs.length 74) = true := by rfl) : F 8 xs res outs := ⟨e_laws_FnExactDouble, Fn.one Try.func8 rfl rfl E_ok rfl h hrun⟩
abbrev n_laws_FnExactBend : FuncId := 9
theorem e_laws_FnExactBend : Enters Try.prog 9 := ⟨Try.f9, Try.func9, by kernel_rfl, by kernel_rfl⟩
theorem i_laws_FnExactBend {xs : List A} {res : V} {outs : List (List V)} (hrun : forceH (iniH 84 xs) fun H => W Try.prog 84 (bodyOf Try.f9) H (EndsW 84 E [(8, 4, false)] xs (Q1 res outs))) (h : (okAs xs && Nat.ble xs.length 84) = true := by rfl) : F 9 xs res outs := ⟨e_laws_FnExactBend, Fn.one Try.func9 rfl rfl E_ok rfl h hrun⟩
abbrev n_laws_FnExactValidWorker : FuncId := 10
theorem e_laws_FnExactValidWorker : Enters Try.prog 10 := ⟨Try.f10, Try.func10, by kernel_rfl, by kernel_rfl⟩
theorem i_laws_FnExactValidWorker {xs : List A} {res : V} {outs : List (List V)} (hrun : forceH (iniH 27 xs) fun H => W Try.prog 27 (bodyOf Try.f10) H (EndsW 27 E [(2, 4, false)] xs (Q1 res outs))) (h : (okAs xs && Nat.ble xs.length 27) = true := by rfl) : F 10 xs res outs := ⟨e_laws_FnExactValidWorker, Fn.one Try.func10 rfl rfl E_ok rfl h hrun⟩
abbrev n_laws_FnExactCheckPlan : FuncId := 11
theorem e_laws_FnExactCheckPlan : Enters Try.prog 11 := ⟨Try.f11, Try.func11, by kernel_rfl, by kernel_rfl⟩
theorem i_laws_FnExactCheckPlan {xs : List A} {res : V} {outs : List (List V)} (hrun : forceH (iniH 27 xs) fun H => W Try.prog 27 (bodyOf Try.f11) H (EndsW 27 E [(2, 4, false)] xs (Q1 res outs))) (h : (okAs xs && Nat.ble xs.length 27) = true := by rfl) : F 11 xs res outs := ⟨e_laws_FnExactCheckPlan, Fn.one Try.func11 rfl rfl E_ok rfl h hrun⟩
abbrev n_laws_FnExactForged : FuncId := 12
theorem e_laws_FnExactForged : Enters Try.prog 12 := ⟨Try.f12, Try.func12, by kernel_rfl, by kernel_rfl⟩
theorem i_laws_FnExactForged {xs : List A} {res : V} {outs : List (List V)} (hrun : forceH (iniH 27 xs) fun H => W Try.prog 27 (bodyOf Try.f12) H (EndsW 27 E [(4, 4, false)] xs (Q1 res outs))) (h : (okAs xs && Nat.ble xs.length 27) = true := by rfl) : F 12 xs res outs := ⟨e_laws_FnExactForged, Fn.one Try.func12 rfl rfl E_ok rfl h hrun⟩
abbrev n_laws_FnExactWorkerFall : FuncId := 13
theorem e_laws_FnExactWorkerFall : Enters Try.prog 13 := ⟨Try.f13, Try.func13, by kernel_rfl, by kernel_rfl⟩
theorem i_laws_FnExactWorkerFall {xs : List A} {res : V} {outs : List (List V)} (hrun : forceH (iniH 69 xs) fun H => W Try.prog 69 (bodyOf Try.f13) H (EndsW 69 E [(2, 4, false)] xs (Q1 res outs))) (h : (okAs xs && Nat.ble xs.length 69) = true := by rfl) : F 13 xs res outs := ⟨e_laws_FnExactWorkerFall, Fn.one Try.func13 rfl rfl E_ok rfl h hrun⟩
abbrev n_laws_FnExactWorkerRise : FuncId := 14
theorem e_laws_FnExactWorkerRise : Enters Try.prog 14 := ⟨Try.f14, Try.func14, by kernel_rfl, by kernel_rfl⟩
theorem i_laws_FnExactWorkerRise {xs : List A} {res : V} {outs : List (List V)} (hrun : forceH (iniH 69 xs) fun H => W Try.prog 69 (bodyOf Try.f14) H (EndsW 69 E [(2, 4, false)] xs (Q1 res outs))) (h : (okAs xs && Nat.ble xs.length 69) = true := by rfl) : F 14 xs res outs := ⟨e_laws_FnExactWorkerRise, Fn.one Try.func14 rfl rfl E_ok rfl h hrun⟩
abbrev n_laws_szEntry : FuncId := 15
theorem e_laws_szEntry : Enters Try.prog 15 := ⟨Try.f15, Try.func15, by kernel_rfl, by kernel_rfl⟩
theorem i_laws_szEntry {xs : List A} {res : V} {outs : List (List V)} (hrun : forceH (iniH 13 xs) fun H => W Try.prog 13 (bodyOf Try.f15) H (EndsW 13 E [(4, 3, false)] xs (Q1 res outs))) (h : (okAs xs && Nat.ble xs.length 13) = true := by rfl) : F 15 xs res outs := ⟨e_laws_szEntry, Fn.one Try.func15 rfl rfl E_ok rfl h hrun⟩
abbrev n_spec_FormEntry : FuncId := 16
theorem e_spec_FormEntry : Enters Try.prog 16 := ⟨Try.f16, Try.func16, by kernel_rfl, by kernel_rfl⟩
theorem i_spec_FormEntry {xs : List A} {res : V} {outs : List (List V)} (hrun : forceH (iniH 25 xs) fun H => W Try.prog 25 (bodyOf Try.f16) H (EndsW 25 E [(2, 9, false)] xs (Q1 res outs))) (h : (okAs xs && Nat.ble xs.length 25) = true := by rfl) : F 16 xs res outs := ⟨e_spec_FormEntry, Fn.one Try.func16 rfl rfl E_ok rfl h hrun⟩
abbrev n_laws_toEntry : FuncId := 17
theorem e_laws_toEntry : Enters Try.prog 17 := ⟨Try.f17, Try.func17, by kernel_rfl, by kernel_rfl⟩
theorem i_laws_toEntry {xs : List A} {res : V} {outs : List (List V)} (hrun : forceH (iniH 17 xs) fun H => W Try.prog 17 (bodyOf Try.f17) H (EndsW 17 E [(2, 27, true)] xs (Q1 res outs))) (h : (okAs xs && Nat.ble xs.length 17) = true := by rfl) : F 17 xs res outs := ⟨e_laws_toEntry, Fn.one Try.func17 rfl rfl E_ok rfl h hrun⟩
abbrev n_impl_FormEntry : FuncId := 18
theorem e_impl_FormEntry : Enters Try.prog 18 := ⟨Try.f18, Try.func18, by kernel_rfl, by kernel_rfl⟩
theorem i_impl_FormEntry {xs : List A} {res : V} {outs : List (List V)} (hrun : forceH (iniH 24 xs) fun H => W Try.prog 24 (bodyOf Try.f18) H (EndsW 24 E [(2, 9, false)] xs (Q1 res outs))) (h : (okAs xs && Nat.ble xs.length 24) = true := by rfl) : F 18 xs res outs := ⟨e_impl_FormEntry, Fn.one Try.func18 rfl rfl E_ok rfl h hrun⟩
abbrev n_spec_ReadEntry : FuncId := 19
theorem e_spec_ReadEntry : Enters Try.prog 19 := ⟨Try.f19, Try.func19, by kernel_rfl, by kernel_rfl⟩
theorem i_spec_ReadEntry {xs : List A} {res : V} {outs : List (List V)} (hrun : forceH (iniH 32 xs) fun H => W Try.prog 32 (bodyOf Try.f19) H (EndsW 32 E [(2, 27, true), (3, 4, false)] xs (Q1 res outs))) (h : (okAs xs && Nat.ble xs.length 32) = true := by rfl) : F 19 xs res outs := ⟨e_spec_ReadEntry, Fn.one Try.func19 rfl rfl E_ok rfl h hrun⟩
abbrev n_impl_ReadEntry : FuncId := 20
theorem e_impl_ReadEntry : Enters Try.prog 20 := ⟨Try.f20, Try.func20, by kernel_rfl, by kernel_rfl⟩
theorem i_impl_ReadEntry {xs : List A} {res : V} {outs : List (List V)} (hrun : forceH (iniH 36 xs) fun H => W Try.prog 36 (bodyOf Try.f20) H (EndsW 36 E [(2, 27, true), (3, 4, false)] xs (Q1 res outs))) (h : (okAs xs && Nat.ble xs.length 36) = true := by rfl) : F 20 xs res outs := ⟨e_impl_ReadEntry, Fn.one Try.func20 rfl rfl E_ok rfl h hrun⟩
abbrev n_laws_eqEntry : FuncId := 21
theorem e_laws_eqEntry : Enters Try.prog 21 := ⟨Try.f21, Try.func21, by kernel_rfl, by kernel_rfl⟩
theorem i_laws_eqEntry {xs : List A} {res : V} {outs : List (List V)} (hrun : forceH (iniH 25 xs) fun H => W Try.prog 25 (bodyOf Try.f21) H (EndsW 25 E [(4, 4, false)] xs (Q1 res outs))) (h : (okAs xs && Nat.ble xs.length 25) = true := by rfl) : F 21 xs res outs := ⟨e_laws_eqEntry, Fn.one Try.func21 rfl rfl E_ok rfl h hrun⟩
abbrev n_laws_szStringS : FuncId := 22
theorem e_laws_szStringS : Enters Try.prog 22 := ⟨Try.f22, Try.func22, by kernel_rfl, by kernel_rfl⟩
theorem i_laws_szStringS {xs : List A} {res : V} {outs : List (List V)} (hrun : forceH (iniH 28 xs) fun H => W Try.prog 28 (bodyOf Try.f22) H (EndsW 28 E [(4, 3, false)] xs (Q1 res outs))) (h : (okAs xs && Nat.ble xs.length 28) = true := by rfl) : F 22 xs res outs := ⟨e_laws_szStringS, Fn.one Try.func22 rfl rfl E_ok rfl h hrun⟩
abbrev n_spec_Value : FuncId := 23
theorem e_spec_Value : Enters Try.prog 23 := ⟨Try.f23, Try.func23, by kernel_rfl, by kernel_rfl⟩
theorem i_spec_Value {xs : List A} {res : V} {outs : List (List V)} (hrun : forceH (iniH 26 xs) fun H => W Try.prog 26 (bodyOf Try.f23) H (EndsW 26 E [(4, 9, false)] xs (Q1 res outs))) (h : (okAs xs && Nat.ble xs.length 26) = true := by rfl) : F 23 xs res outs := ⟨e_spec_Value, Fn.one Try.func23 rfl rfl E_ok rfl h hrun⟩
abbrev n_laws_toStringS : FuncId := 24
theorem e_laws_toStringS : Enters Try.prog 24 := ⟨Try.f24, Try.func24, by kernel_rfl, by kernel_rfl⟩
theorem i_laws_toStringS {xs : List A} {res : V} {outs : List (List V)} (hrun : forceH (iniH 22 xs) fun H => W Try.prog 22 (bodyOf Try.f24) H (EndsW 22 E [(2, 34, false)] xs (Q1 res outs))) (h : (okAs xs && Nat.ble xs.length 22) = true := by rfl) : F 24 xs res outs := ⟨e_laws_toStringS, Fn.one Try.func24 rfl rfl E_ok rfl h hrun⟩
abbrev n_impl_Value : FuncId := 25
theorem e_impl_Value : Enters Try.prog 25 := ⟨Try.f25, Try.func25, by kernel_rfl, by kernel_rfl⟩
theorem i_impl_Value {xs : List A} {res : V} {outs : List (List V)} (hrun : forceH (iniH 22 xs) fun H => W Try.prog 22 (bodyOf Try.f25) H (EndsW 22 E [(4, 9, false)] xs (Q1 res outs))) (h : (okAs xs && Nat.ble xs.length 22) = true := by rfl) : F 25 xs res outs := ⟨e_impl_Value, Fn.one Try.func25 rfl rfl E_ok rfl h hrun⟩
abbrev n_laws_eqStringS : FuncId := 26
theorem e_laws_eqStringS : Enters Try.prog 26 := ⟨Try.f26, Try.func26, by kernel_rfl, by kernel_rfl⟩
theorem i_laws_eqStringS {xs : List A} {res : V} {outs : List (List V)} (hrun : forceH (iniH 26 xs) fun H => W Try.prog 26 (bodyOf Try.f26) H (EndsW 26 E [(4, 4, false)] xs (Q1 res outs))) (h : (okAs xs && Nat.ble xs.length 26) = true := by rfl) : F 26 xs res outs := ⟨e_laws_eqStringS, Fn.one Try.func26 rfl rfl E_ok rfl h hrun⟩
abbrev n_laws_szParcelS : FuncId := 27
theorem e_laws_szParcelS : Enters Try.prog 27 := ⟨Try.f27, Try.func27, by kernel_rfl, by kernel_rfl⟩
theorem i_laws_szParcelS {xs : List A} {res : V} {outs : List (List V)} (hrun : forceH (iniH 27 xs) fun H => W Try.prog 27 (bodyOf Try.f27) H (EndsW 27 E [(4, 3, false)] xs (Q1 res outs))) (h : (okAs xs && Nat.ble xs.length 27) = true := by rfl) : F 27 xs res outs := ⟨e_laws_szParcelS, Fn.one Try.func27 rfl rfl E_ok rfl h hrun⟩
abbrev n_spec_Lose : FuncId := 28
theorem e_spec_Lose : Enters Try.prog 28 := ⟨Try.f28, Try.func28, by kernel_rfl, by kernel_rfl⟩
theorem i_spec_Lose {xs : List A} {res : V} {outs : List (List V)} (hrun : forceH (iniH 21 xs) fun H => W Try.prog 21 (bodyOf Try.f28) H (EndsW 21 E [(4, 42, false)] xs (Q1 res outs))) (h : (okAs xs && Nat.ble xs.length 21) = true := by rfl) : F 28 xs res outs := ⟨e_spec_Lose, Fn.one Try.func28 rfl rfl E_ok rfl h hrun⟩
abbrev n_laws_toParcelS : FuncId := 29
theorem e_laws_toParcelS : Enters Try.prog 29 := ⟨Try.f29, Try.func29, by kernel_rfl, by kernel_rfl⟩
theorem i_laws_toParcelS {xs : List A} {res : V} {outs : List (List V)} (hrun : forceH (iniH 23 xs) fun H => W Try.prog 23 (bodyOf Try.f29) H (EndsW 23 E [(2, 42, false)] xs (Q1 res outs))) (h : (okAs xs && Nat.ble xs.length 23) = true := by rfl) : F 29 xs res outs := ⟨e_laws_toParcelS, Fn.one Try.func29 rfl rfl E_ok rfl h hrun⟩
abbrev n_impl_Lose : FuncId := 30
theorem e_impl_Lose : Enters Try.prog 30 := ⟨Try.f30, Try.func30, by kernel_rfl, by kernel_rfl⟩
theorem i_impl_Lose {xs : List A} {res : V} {outs : List (List V)} (hrun : forceH (iniH 20 xs) fun H => W Try.prog 20 (bodyOf Try.f30) H (EndsW 20 E [(4, 42, false)] xs (Q1 res outs))) (h : (okAs xs && Nat.ble xs.length 20) = true := by rfl) : F 30 xs res outs := ⟨e_impl_Lose, Fn.one Try.func30 rfl rfl E_ok rfl h hrun⟩
abbrev n_laws_eqParcelS : FuncId := 31
theorem e_laws_eqParcelS : Enters Try.prog 31 := ⟨Try.f31, Try.func31, by kernel_rfl, by kernel_rfl⟩
theorem i_laws_eqParcelS {xs : List A} {res : V} {outs : List (List V)} (hrun : forceH (iniH 27 xs) fun H => W Try.prog 27 (bodyOf Try.f31) H (EndsW 27 E [(4, 4, false)] xs (Q1 res outs))) (h : (okAs xs && Nat.ble xs.length 27) = true := by rfl) : F 31 xs res outs := ⟨e_laws_eqParcelS, Fn.one Try.func31 rfl rfl E_ok rfl h hrun⟩
abbrev n_laws_markParcelS : FuncId := 32
theorem e_laws_markParcelS : Enters Try.prog 32 := ⟨Try.f32, Try.func32, by kernel_rfl, by kernel_rfl⟩
theorem i_laws_markParcelS {xs : List A} {res : V} {outs : List (List V)} (hrun : forceH (iniH 36 xs) fun H => W Try.prog 36 (bodyOf Try.f32) H (EndsW 36 E [(4, 3, false)] xs (Q1 res outs))) (h : (okAs xs && Nat.ble xs.length 36) = true := by rfl) : F 32 xs res outs := ⟨e_laws_markParcelS, Fn.one Try.func32 rfl rfl E_ok rfl h hrun⟩
abbrev n_laws_heldParcelS : FuncId := 33
theorem e_laws_heldParcelS : Enters Try.prog 33 := ⟨Try.f33, Try.func33, by kernel_rfl, by kernel_rfl⟩
theorem i_laws_heldParcelS {xs : List A} {res : V} {outs : List (List V)} (hrun : forceH (iniH 42 xs) fun H => W Try.prog 42 (bodyOf Try.f33) H (EndsW 42 E [(4, 3, false)] xs (Q1 res outs))) (h : (okAs xs && Nat.ble xs.length 42) = true := by rfl) : F 33 xs res outs := ⟨e_laws_heldParcelS, Fn.one Try.func33 rfl rfl E_ok rfl h hrun⟩
abbrev n_spec_Double : FuncId := 34
theorem e_spec_Double : Enters Try.prog 34 := ⟨Try.f34, Try.func34, by kernel_rfl, by kernel_rfl⟩
theorem i_spec_Double {xs : List A} {res : V} {outs : List (List V)} (hrun : forceH (iniH 24 xs) fun H => W Try.prog 24 (bodyOf Try.f34) H (EndsW 24 E [(4, 42, false)] xs (Q1 res outs))) (h : (okAs xs && Nat.ble xs.length 24) = true := by rfl) : F 34 xs res outs := ⟨e_spec_Double, Fn.one Try.func34 rfl rfl E_ok rfl h hrun⟩
abbrev n_impl_Double : FuncId := 35
theorem e_impl_Double : Enters Try.prog 35 := ⟨Try.f35, Try.func35, by kernel_rfl, by kernel_rfl⟩
theorem i_impl_Double {xs : List A} {res : V} {outs : List (List V)} (hrun : forceH (iniH 24 xs) fun H => W Try.prog 24 (bodyOf Try.f35) H (EndsW 24 E [(4, 42, false)] xs (Q1 res outs))) (h : (okAs xs && Nat.ble xs.length 24) = true := by rfl) : F 35 xs res outs := ⟨e_impl_Double, Fn.one Try.func35 rfl rfl E_ok rfl h hrun⟩
abbrev n_spec_Bend : FuncId := 36
theorem e_spec_Bend : Enters Try.prog 36 := ⟨Try.f36, Try.func36, by kernel_rfl, by kernel_rfl⟩
theorem i_spec_Bend {xs : List A} {res : V} {outs : List (List V)} (hrun : forceH (iniH 60 xs) fun H => W Try.prog 60 (bodyOf Try.f36) H (EndsW 60 E [(8, 42, false)] xs (Q1 res outs))) (h : (okAs xs && Nat.ble xs.length 60) = true := by rfl) : F 36 xs res outs := ⟨e_spec_Bend, Fn.one Try.func36 rfl rfl E_ok rfl h hrun⟩
abbrev n_impl_Bend : FuncId := 37
theorem e_impl_Bend : Enters Try.prog 37 := ⟨Try.f37, Try.func37, by kernel_rfl, by kernel_rfl⟩
theorem i_impl_Bend {xs : List A} {res : V} {outs : List (List V)} (hrun : forceH (iniH 53 xs) fun H => W Try.prog 53 (bodyOf Try.f37) H (EndsW 53 E [(8, 42, false)] xs (Q1 res outs))) (h : (okAs xs && Nat.ble xs.length 53) = true := by rfl) : F 37 xs res outs := ⟨e_impl_Bend, Fn.one Try.func37 rfl rfl E_ok rfl h hrun⟩
abbrev n_laws_szWorker : FuncId := 38
theorem e_laws_szWorker : Enters Try.prog 38 := ⟨Try.f38, Try.func38, by kernel_rfl, by kernel_rfl⟩
theorem i_laws_szWorker {xs : List A} {res : V} {outs : List (List V)} (hrun : forceH (iniH 19 xs) fun H => W Try.prog 19 (bodyOf Try.f38) H (EndsW 19 E [(4, 3, false)] xs (Q1 res outs))) (h : (okAs xs && Nat.ble xs.length 19) = true := by rfl) : F 38 xs res outs := ⟨e_laws_szWorker, Fn.one Try.func38 rfl rfl E_ok rfl h hrun⟩
abbrev n_spec_ValidWorker : FuncId := 39
theorem e_spec_ValidWorker : Enters Try.prog 39 := ⟨Try.f39, Try.func39, by kernel_rfl, by kernel_rfl⟩
theorem i_spec_ValidWorker {xs : List A} {res : V} {outs : List (List V)} (hrun : forceH (iniH 129 xs) fun H => W Try.prog 129 (bodyOf Try.f39) H (EndsW 129 E [(2, 4, false)] xs (Q1 res outs))) (h : (okAs xs && Nat.ble xs.length 129) = true := by rfl) : F 39 xs res outs := ⟨e_spec_ValidWorker, Fn.one Try.func39 rfl rfl E_ok rfl h hrun⟩
abbrev n_laws_toWorker : FuncId := 40
theorem e_laws_toWorker : Enters Try.prog 40 := ⟨Try.f40, Try.func40, by kernel_rfl, by kernel_rfl⟩
theorem i_laws_toWorker {xs : List A} {res : V} {outs : List (List V)} (hrun : forceH (iniH 39 xs) fun H => W Try.prog 39 (bodyOf Try.f40) H (EndsW 39 E [(2, 54, true)] xs (Q1 res outs))) (h : (okAs xs && Nat.ble xs.length 39) = true := by rfl) : F 40 xs res outs := ⟨e_laws_toWorker, Fn.one Try.func40 rfl rfl E_ok rfl h hrun⟩
abbrev n_impl_ValidWorker : FuncId := 41
theorem e_impl_ValidWorker : Enters Try.prog 41 := ⟨Try.f41, Try.func41, by kernel_rfl, by kernel_rfl⟩
theorem i_impl_ValidWorker {xs : List A} {res : V} {outs : List (List V)} (hrun : forceH (iniH 124 xs) fun H => W Try.prog 124 (bodyOf Try.f41) H (EndsW 124 E [(2, 4, false)] xs (Q1 res outs))) (h : (okAs xs && Nat.ble xs.length 124) = true := by rfl) : F 41 xs res outs := ⟨e_impl_ValidWorker, Fn.one Try.func41 rfl rfl E_ok rfl h hrun⟩
abbrev n_laws_eqWorker : FuncId := 42
theorem e_laws_eqWorker : Enters Try.prog 42 := ⟨Try.f42, Try.func42, by kernel_rfl, by kernel_rfl⟩
theorem i_laws_eqWorker {xs : List A} {res : V} {outs : List (List V)} (hrun : forceH (iniH 61 xs) fun H => W Try.prog 61 (bodyOf Try.f42) H (EndsW 61 E [(4, 4, false)] xs (Q1 res outs))) (h : (okAs xs && Nat.ble xs.length 61) = true := by rfl) : F 42 xs res outs := ⟨e_laws_eqWorker, Fn.one Try.func42 rfl rfl E_ok rfl h hrun⟩
abbrev n_laws_szPlan : FuncId := 43
theorem e_laws_szPlan : Enters Try.prog 43 := ⟨Try.f43, Try.func43, by kernel_rfl, by kernel_rfl⟩
theorem i_laws_szPlan {xs : List A} {res : V} {outs : List (List V)} (hrun : forceH (iniH 12 xs) fun H => W Try.prog 12 (bodyOf Try.f43) H (EndsW 12 E [(4, 3, false)] xs (Q1 res outs))) (h : (okAs xs && Nat.ble xs.length 12) = true := by rfl) : F 43 xs res outs := ⟨e_laws_szPlan, Fn.one Try.func43 rfl rfl E_ok rfl h hrun⟩
abbrev n_spec_CheckPlan : FuncId := 44
theorem e_spec_CheckPlan : Enters Try.prog 44 := ⟨Try.f44, Try.func44, by kernel_rfl, by kernel_rfl⟩
theorem i_spec_CheckPlan {xs : List A} {res : V} {outs : List (List V)} (hrun : forceH (iniH 120 xs) fun H => W Try.prog 120 (bodyOf Try.f44) H (EndsW 120 E [(2, 3, false)] xs (Q1 res outs))) (h : (okAs xs && Nat.ble xs.length 120) = true := by rfl) : F 44 xs res outs := ⟨e_spec_CheckPlan, Fn.one Try.func44 rfl rfl E_ok rfl h hrun⟩
abbrev n_laws_toPlan : FuncId := 45
theorem e_laws_toPlan : Enters Try.prog 45 := ⟨Try.f45, Try.func45, by kernel_rfl, by kernel_rfl⟩
theorem i_laws_toPlan {xs : List A} {res : V} {outs : List (List V)} (hrun : forceH (iniH 9 xs) fun H => W Try.prog 9 (bodyOf Try.f45) H (EndsW 9 E [(2, 65, true)] xs (Q1 res outs))) (h : (okAs xs && Nat.ble xs.length 9) = true := by rfl) : F 45 xs res outs := ⟨e_laws_toPlan, Fn.one Try.func45 rfl rfl E_ok rfl h hrun⟩
abbrev n_impl_CheckPlan : FuncId := 46
theorem e_impl_CheckPlan : Enters Try.prog 46 := ⟨Try.f46, Try.func46, by kernel_rfl, by kernel_rfl⟩
theorem i_impl_CheckPlan {xs : List A} {res : V} {outs : List (List V)} (hrun : forceH (iniH 91 xs) fun H => W Try.prog 91 (bodyOf Try.f46) H (EndsW 91 E [(2, 3, false)] xs (Q1 res outs))) (h : (okAs xs && Nat.ble xs.length 91) = true := by rfl) : F 46 xs res outs := ⟨e_impl_CheckPlan, Fn.one Try.func46 rfl rfl E_ok rfl h hrun⟩
abbrev n_laws_eqPlan : FuncId := 47
theorem e_laws_eqPlan : Enters Try.prog 47 := ⟨Try.f47, Try.func47, by kernel_rfl, by kernel_rfl⟩
theorem i_laws_eqPlan {xs : List A} {res : V} {outs : List (List V)} (hrun : forceH (iniH 11 xs) fun H => W Try.prog 11 (bodyOf Try.f47) H (EndsW 11 E [(4, 4, false)] xs (Q1 res outs))) (h : (okAs xs && Nat.ble xs.length 11) = true := by rfl) : F 47 xs res outs := ⟨e_laws_eqPlan, Fn.one Try.func47 rfl rfl E_ok rfl h hrun⟩
abbrev n_laws_szParcel : FuncId := 48
theorem e_laws_szParcel : Enters Try.prog 48 := ⟨Try.f48, Try.func48, by kernel_rfl, by kernel_rfl⟩
theorem i_laws_szParcel {xs : List A} {res : V} {outs : List (List V)} (hrun : forceH (iniH 20 xs) fun H => W Try.prog 20 (bodyOf Try.f48) H (EndsW 20 E [(4, 3, false)] xs (Q1 res outs))) (h : (okAs xs && Nat.ble xs.length 20) = true := by rfl) : F 48 xs res outs := ⟨e_laws_szParcel, Fn.one Try.func48 rfl rfl E_ok rfl h hrun⟩
abbrev n_spec_Forged : FuncId := 49
theorem e_spec_Forged : Enters Try.prog 49 := ⟨Try.f49, Try.func49, by kernel_rfl, by kernel_rfl⟩
theorem i_spec_Forged {xs : List A} {res : V} {outs : List (List V)} (hrun : forceH (iniH 20 xs) fun H => W Try.prog 20 (bodyOf Try.f49) H (EndsW 20 E [(4, 4, false)] xs (Q1 res outs))) (h : (okAs xs && Nat.ble xs.length 20) = true := by rfl) : F 49 xs res outs := ⟨e_spec_Forged, Fn.one Try.func49 rfl rfl E_ok rfl h hrun⟩
abbrev n_laws_toParcel : FuncId := 50
theorem e_laws_toParcel : Enters Try.prog 50 := ⟨Try.f50, Try.func50, by kernel_rfl, by kernel_rfl⟩
theorem i_laws_toParcel {xs : List A} {res : V} {outs : List (List V)} (hrun : forceH (iniH 14 xs) fun H => W Try.prog 14 (bodyOf Try.f50) H (EndsW 14 E [(2, 73, true)] xs (Q1 res outs))) (h : (okAs xs && Nat.ble xs.length 14) = true := by rfl) : F 50 xs res outs := ⟨e_laws_toParcel, Fn.one Try.func50 rfl rfl E_ok rfl h hrun⟩
abbrev n_impl_Forged : FuncId := 51
theorem e_impl_Forged : Enters Try.prog 51 := ⟨Try.f51, Try.func51, by kernel_rfl, by kernel_rfl⟩
theorem i_impl_Forged {xs : List A} {res : V} {outs : List (List V)} (hrun : forceH (iniH 22 xs) fun H => W Try.prog 22 (bodyOf Try.f51) H (EndsW 22 E [(4, 4, false)] xs (Q1 res outs))) (h : (okAs xs && Nat.ble xs.length 22) = true := by rfl) : F 51 xs res outs := ⟨e_impl_Forged, Fn.one Try.func51 rfl rfl E_ok rfl h hrun⟩
abbrev n_spec_WorkerFall : FuncId := 52
theorem e_spec_WorkerFall : Enters Try.prog 52 := ⟨Try.f52, Try.func52, by kernel_rfl, by kernel_rfl⟩
theorem i_spec_WorkerFall {xs : List A} {res : V} {outs : List (List V)} (hrun : forceH (iniH 12 xs) fun H => W Try.prog 12 (bodyOf Try.f52) H (EndsW 12 E [(2, 54, true)] xs (Q1 res outs))) (h : (okAs xs && Nat.ble xs.length 12) = true := by rfl) : F 52 xs res outs := ⟨e_spec_WorkerFall, Fn.one Try.func52 rfl rfl E_ok rfl h hrun⟩
abbrev n_impl_WorkerFall : FuncId := 53
theorem e_impl_WorkerFall : Enters Try.prog 53 := ⟨Try.f53, Try.func53, by kernel_rfl, by kernel_rfl⟩
theorem i_impl_WorkerFall {xs : List A} {res : V} {outs : List (List V)} (hrun : forceH (iniH 11 xs) fun H => W Try.prog 11 (bodyOf Try.f53) H (EndsW 11 E [(2, 54, true)] xs (Q1 res outs))) (h : (okAs xs && Nat.ble xs.length 11) = true := by rfl) : F 53 xs res outs := ⟨e_impl_WorkerFall, Fn.one Try.func53 rfl rfl E_ok rfl h hrun⟩
abbrev n_laws_markWorker : FuncId := 54
theorem e_laws_markWorker : Enters Try.prog 54 := ⟨Try.f54, Try.func54, by kernel_rfl, by kernel_rfl⟩
theorem i_laws_markWorker {xs : List A} {res : V} {outs : List (List V)} (hrun : forceH (iniH 10 xs) fun H => W Try.prog 10 (bodyOf Try.f54) H (EndsW 10 E [(4, 3, false)] xs (Q1 res outs))) (h : (okAs xs && Nat.ble xs.length 10) = true := by rfl) : F 54 xs res outs := ⟨e_laws_markWorker, Fn.one Try.func54 rfl rfl E_ok rfl h hrun⟩
abbrev n_laws_heldWorker : FuncId := 55
theorem e_laws_heldWorker : Enters Try.prog 55 := ⟨Try.f55, Try.func55, by kernel_rfl, by kernel_rfl⟩
theorem i_laws_heldWorker {xs : List A} {res : V} {outs : List (List V)} (hrun : forceH (iniH 12 xs) fun H => W Try.prog 12 (bodyOf Try.f55) H (EndsW 12 E [(4, 3, false)] xs (Q1 res outs))) (h : (okAs xs && Nat.ble xs.length 12) = true := by rfl) : F 55 xs res outs := ⟨e_laws_heldWorker, Fn.one Try.func55 rfl rfl E_ok rfl h hrun⟩
abbrev n_spec_WorkerRise : FuncId := 56
theorem e_spec_WorkerRise : Enters Try.prog 56 := ⟨Try.f56, Try.func56, by kernel_rfl, by kernel_rfl⟩
theorem i_spec_WorkerRise {xs : List A} {res : V} {outs : List (List V)} (hrun : forceH (iniH 25 xs) fun H => W Try.prog 25 (bodyOf Try.f56) H (EndsW 25 E [(2, 54, true)] xs (Q1 res outs))) (h : (okAs xs && Nat.ble xs.length 25) = true := by rfl) : F 56 xs res outs := ⟨e_spec_WorkerRise, Fn.one Try.func56 rfl rfl E_ok rfl h hrun⟩
abbrev n_impl_WorkerRise : FuncId := 57
theorem e_impl_WorkerRise : Enters Try.prog 57 := ⟨Try.f57, Try.func57, by kernel_rfl, by kernel_rfl⟩
theorem i_impl_WorkerRise {xs : List A} {res : V} {outs : List (List V)} (hrun : forceH (iniH 22 xs) fun H => W Try.prog 22 (bodyOf Try.f57) H (EndsW 22 E [(2, 54, true)] xs (Q1 res outs))) (h : (okAs xs && Nat.ble xs.length 22) = true := by rfl) : F 57 xs res outs := ⟨e_impl_WorkerRise, Fn.one Try.func57 rfl rfl E_ok rfl h hrun⟩
abbrev n_spec_l4Ok : FuncId := 58
theorem e_spec_l4Ok : Enters Try.prog 58 := ⟨Try.f58, Try.func58, by kernel_rfl, by kernel_rfl⟩
theorem i_spec_l4Ok {xs : List A} {res : V} {outs : List (List V)} (hrun : forceH (iniH 33 xs) fun H => W Try.prog 33 (bodyOf Try.f58) H (EndsW 33 E [(2, 4, false)] xs (Q1 res outs))) (h : (okAs xs && Nat.ble xs.length 33) = true := by rfl) : F 58 xs res outs := ⟨e_spec_l4Ok, Fn.one Try.func58 rfl rfl E_ok rfl h hrun⟩
abbrev n_impl_Entry_valid : FuncId := 59
theorem e_impl_Entry_valid : Enters Try.prog 59 := ⟨Try.f59, Try.func59, by kernel_rfl, by kernel_rfl⟩
theorem i_impl_Entry_valid {xs : List A} {res : V} {outs : List (List V)} (hrun : forceH (iniH 31 xs) fun H => W Try.prog 31 (bodyOf Try.f59) H (EndsW 31 E [(2, 4, false)] xs (Q1 res outs))) (h : (okAs xs && Nat.ble xs.length 31) = true := by rfl) : F 59 xs res outs := ⟨e_impl_Entry_valid, Fn.one Try.func59 rfl rfl E_ok rfl h hrun⟩
abbrev n_spec_l1Sum : FuncId := 60
theorem e_spec_l1Sum : Enters Try.prog 60 := ⟨Try.f60, Try.func60, by kernel_rfl, by kernel_rfl⟩
theorem i_spec_l1Sum {xs : List A} {res : V} {outs : List (List V)} (hrun : forceH (iniH 35 xs) fun H => W Try.prog 35 (bodyOf Try.f60) H (EndsW 35 E [(2, 9, false)] xs (Q1 res outs))) (h : (okAs xs && Nat.ble xs.length 35) = true := by rfl) : F 60 xs res outs := ⟨e_spec_l1Sum, Fn.one Try.func60 rfl rfl E_ok rfl h hrun⟩
abbrev n_impl_hash_bytes : FuncId := 61
theorem e_impl_hash_bytes : Enters Try.prog 61 := ⟨Try.f61, Try.func61, by kernel_rfl, by kernel_rfl⟩
theorem i_impl_hash_bytes {xs : List A} {res : V} {outs : List (List V)} (hrun : forceH (iniH 22 xs) fun H => W Try.prog 22 (bodyOf Try.f61) H (EndsW 22 E [] xs (Q1 res outs))) (h : (okAs xs && Nat.ble xs.length 22) = true := by rfl) : F 61 xs res outs := ⟨e_impl_hash_bytes, Fn.one Try.func61 rfl rfl E_ok rfl h hrun⟩
abbrev n_impl_hash_text : FuncId := 62
theorem e_impl_hash_text : Enters Try.prog 62 := ⟨Try.f62, Try.func62, by kernel_rfl, by kernel_rfl⟩
theorem i_impl_hash_text {xs : List A} {res : V} {outs : List (List V)} (hrun : forceH (iniH 23 xs) fun H => W Try.prog 23 (bodyOf Try.f62) H (EndsW 23 E [(2, 9, false)] xs (Q1 res outs))) (h : (okAs xs && Nat.ble xs.length 23) = true := by rfl) : F 62 xs res outs := ⟨e_impl_hash_text, Fn.one Try.func62 rfl rfl E_ok rfl h hrun⟩
abbrev n_spec_l6There : FuncId := 63
theorem e_spec_l6There : Enters Try.prog 63 := ⟨Try.f63, Try.func63, by kernel_rfl, by kernel_rfl⟩
theorem i_spec_l6There {xs : List A} {res : V} {outs : List (List V)} (hrun : forceH (iniH 18 xs) fun H => W Try.prog 18 (bodyOf Try.f63) H (EndsW 18 E [(4, 4, false)] xs (Q1 res outs))) (h : (okAs xs && Nat.ble xs.length 18) = true := by rfl) : F 63 xs res outs := ⟨e_spec_l6There, Fn.one Try.func63 rfl rfl E_ok rfl h hrun⟩
abbrev n_spec_l6Copy : FuncId := 64
theorem e_spec_l6Copy : Enters Try.prog 64 := ⟨Try.f64, Try.func64, by kernel_rfl, by kernel_rfl⟩
theorem i_spec_l6Copy {xs : List A} {res : V} {outs : List (List V)} (hrun : forceH (iniH 6 xs) fun H => W Try.prog 6 (bodyOf Try.f64) H (EndsW 6 E [(2, 42, false)] xs (Q1 res outs))) (h : (okAs xs && Nat.ble xs.length 6) = true := by rfl) : F 64 xs res outs := ⟨e_spec_l6Copy, Fn.one Try.func64 rfl rfl E_ok rfl h hrun⟩
abbrev n_impl_copied : FuncId := 65
theorem e_impl_copied : Enters Try.prog 65 := ⟨Try.f65, Try.func65, by kernel_rfl, by kernel_rfl⟩
theorem i_impl_copied {xs : List A} {res : V} {outs : List (List V)} (hrun : forceH (iniH 6 xs) fun H => W Try.prog 6 (bodyOf Try.f65) H (EndsW 6 E [(2, 42, false)] xs (Q1 res outs))) (h : (okAs xs && Nat.ble xs.length 6) = true := by rfl) : F 65 xs res outs := ⟨e_impl_copied, Fn.one Try.func65 rfl rfl E_ok rfl h hrun⟩
abbrev n_impl_there : FuncId := 66
theorem e_impl_there : Enters Try.prog 66 := ⟨Try.f66, Try.func66, by kernel_rfl, by kernel_rfl⟩
theorem i_impl_there {xs : List A} {res : V} {outs : List (List V)} (hrun : forceH (iniH 15 xs) fun H => W Try.prog 15 (bodyOf Try.f66) H (EndsW 15 E [(4, 4, false)] xs (Q1 res outs))) (h : (okAs xs && Nat.ble xs.length 15) = true := by rfl) : F 66 xs res outs := ⟨e_impl_there, Fn.one Try.func66 rfl rfl E_ok rfl h hrun⟩
abbrev n_laws_eqParcel : FuncId := 67
theorem e_laws_eqParcel : Enters Try.prog 67 := ⟨Try.f67, Try.func67, by kernel_rfl, by kernel_rfl⟩
theorem i_laws_eqParcel {xs : List A} {res : V} {outs : List (List V)} (hrun : forceH (iniH 20 xs) fun H => W Try.prog 20 (bodyOf Try.f67) H (EndsW 20 E [(4, 4, false)] xs (Q1 res outs))) (h : (okAs xs && Nat.ble xs.length 20) = true := by rfl) : F 67 xs res outs := ⟨e_laws_eqParcel, Fn.one Try.func67 rfl rfl E_ok rfl h hrun⟩
abbrev n_laws_markText : FuncId := 68
theorem e_laws_markText : Enters Try.prog 68 := ⟨Try.f68, Try.func68, by kernel_rfl, by kernel_rfl⟩
theorem i_laws_markText {xs : List A} {res : V} {outs : List (List V)} (hrun : forceH (iniH 20 xs) fun H => W Try.prog 20 (bodyOf Try.f68) H (EndsW 20 E [(2, 9, false)] xs (Q1 res outs))) (h : (okAs xs && Nat.ble xs.length 20) = true := by rfl) : F 68 xs res outs := ⟨e_laws_markText, Fn.one Try.func68 rfl rfl E_ok rfl h hrun⟩
abbrev n_impl_within : FuncId := 69
theorem e_impl_within : Enters Try.prog 69 := ⟨Try.f69, Try.func69, by kernel_rfl, by kernel_rfl⟩
theorem i_impl_within {xs : List A} {res : V} {outs : List (List V)} (hrun : forceH (iniH 15 xs) fun H => W Try.prog 15 (bodyOf Try.f69) H (EndsW 15 E [(6, 4, false)] xs (Q1 res outs))) (h : (okAs xs && Nat.ble xs.length 15) = true := by rfl) : F 69 xs res outs := ⟨e_impl_within, Fn.one Try.func69 rfl rfl E_ok rfl h hrun⟩
abbrev n_spec_l2In : FuncId := 70
theorem e_spec_l2In : Enters Try.prog 70 := ⟨Try.f70, Try.func70, by kernel_rfl, by kernel_rfl⟩
theorem i_spec_l2In {xs : List A} {res : V} {outs : List (List V)} (hrun : forceH (iniH 15 xs) fun H => W Try.prog 15 (bodyOf Try.f70) H (EndsW 15 E [(6, 4, false)] xs (Q1 res outs))) (h : (okAs xs && Nat.ble xs.length 15) = true := by rfl) : F 70 xs res outs := ⟨e_spec_l2In, Fn.one Try.func70 rfl rfl E_ok rfl h hrun⟩
abbrev n_spec_l2LeaseOk : FuncId := 71
theorem e_spec_l2LeaseOk : Enters Try.prog 71 := ⟨Try.f71, Try.func71, by kernel_rfl, by kernel_rfl⟩
theorem i_spec_l2LeaseOk {xs : List A} {res : V} {outs : List (List V)} (hrun : forceH (iniH 5 xs) fun H => W Try.prog 5 (bodyOf Try.f71) H (EndsW 5 E [(2, 4, false)] xs (Q1 res outs))) (h : (okAs xs && Nat.ble xs.length 5) = true := by rfl) : F 71 xs res outs := ⟨e_spec_l2LeaseOk, Fn.one Try.func71 rfl rfl E_ok rfl h hrun⟩
abbrev n_spec_l2InputsOk : FuncId := 72
theorem e_spec_l2InputsOk : Enters Try.prog 72 := ⟨Try.f72, Try.func72, by kernel_rfl, by kernel_rfl⟩
theorem i_spec_l2InputsOk {xs : List A} {res : V} {outs : List (List V)} (hrun : forceH (iniH 19 xs) fun H => W Try.prog 19 (bodyOf Try.f72) H (EndsW 19 E [(2, 4, false)] xs (Q1 res outs))) (h : (okAs xs && Nat.ble xs.length 19) = true := by rfl) : F 72 xs res outs := ⟨e_spec_l2InputsOk, Fn.one Try.func72 rfl rfl E_ok rfl h hrun⟩
abbrev n_impl_eights : FuncId := 73
theorem e_impl_eights : Enters Try.prog 73 := ⟨Try.f73, Try.func73, by kernel_rfl, by kernel_rfl⟩
theorem i_impl_eights {xs : List A} {res : V} {outs : List (List V)} (hrun : forceH (iniH 18 xs) fun H => W Try.prog 18 (bodyOf Try.f73) H (EndsW 18 E [(2, 4, false)] xs (Q1 res outs))) (h : (okAs xs && Nat.ble xs.length 18) = true := by rfl) : F 73 xs res outs := ⟨e_impl_eights, Fn.one Try.func73 rfl rfl E_ok rfl h hrun⟩
abbrev n_laws_szTaskS : FuncId := 74
theorem e_laws_szTaskS : Enters Try.prog 74 := ⟨Try.f74, Try.func74, by kernel_rfl, by kernel_rfl⟩
theorem i_laws_szTaskS {xs : List A} {res : V} {outs : List (List V)} (hrun : forceH (iniH 27 xs) fun H => W Try.prog 27 (bodyOf Try.f74) H (EndsW 27 E [(4, 3, false)] xs (Q1 res outs))) (h : (okAs xs && Nat.ble xs.length 27) = true := by rfl) : F 74 xs res outs := ⟨e_laws_szTaskS, Fn.one Try.func74 rfl rfl E_ok rfl h hrun⟩
abbrev n_spec_l1NameOk : FuncId := 75
theorem e_spec_l1NameOk : Enters Try.prog 75 := ⟨Try.f75, Try.func75, by kernel_rfl, by kernel_rfl⟩
theorem i_spec_l1NameOk {xs : List A} {res : V} {outs : List (List V)} (hrun : forceH (iniH 28 xs) fun H => W Try.prog 28 (bodyOf Try.f75) H (EndsW 28 E [(2, 4, false)] xs (Q1 res outs))) (h : (okAs xs && Nat.ble xs.length 28) = true := by rfl) : F 75 xs res outs := ⟨e_spec_l1NameOk, Fn.one Try.func75 rfl rfl E_ok rfl h hrun⟩
abbrev n_laws_toTaskS : FuncId := 76
theorem e_laws_toTaskS : Enters Try.prog 76 := ⟨Try.f76, Try.func76, by kernel_rfl, by kernel_rfl⟩
theorem i_laws_toTaskS {xs : List A} {res : V} {outs : List (List V)} (hrun : forceH (iniH 23 xs) fun H => W Try.prog 23 (bodyOf Try.f76) H (EndsW 23 E [(2, 63, false)] xs (Q1 res outs))) (h : (okAs xs && Nat.ble xs.length 23) = true := by rfl) : F 76 xs res outs := ⟨e_laws_toTaskS, Fn.one Try.func76 rfl rfl E_ok rfl h hrun⟩
abbrev n_impl_plain : FuncId := 77
theorem e_impl_plain : Enters Try.prog 77 := ⟨Try.f77, Try.func77, by kernel_rfl, by kernel_rfl⟩
theorem i_impl_plain {xs : List A} {res : V} {outs : List (List V)} (hrun : forceH (iniH 28 xs) fun H => W Try.prog 28 (bodyOf Try.f77) H (EndsW 28 E [(2, 4, false)] xs (Q1 res outs))) (h : (okAs xs && Nat.ble xs.length 28) = true := by rfl) : F 77 xs res outs := ⟨e_impl_plain, Fn.one Try.func77 rfl rfl E_ok rfl h hrun⟩
abbrev n_laws_eqTaskS : FuncId := 78
theorem e_laws_eqTaskS : Enters Try.prog 78 := ⟨Try.f78, Try.func78, by kernel_rfl, by kernel_rfl⟩
theorem i_laws_eqTaskS {xs : List A} {res : V} {outs : List (List V)} (hrun : forceH (iniH 27 xs) fun H => W Try.prog 27 (bodyOf Try.f78) H (EndsW 27 E [(4, 4, false)] xs (Q1 res outs))) (h : (okAs xs && Nat.ble xs.length 27) = true := by rfl) : F 78 xs res outs := ⟨e_laws_eqTaskS, Fn.one Try.func78 rfl rfl E_ok rfl h hrun⟩
abbrev n_spec_ReadMessage : FuncId := 79
theorem e_spec_ReadMessage : Enters Try.prog 79 := ⟨Try.f79, Try.func79, by kernel_rfl, by kernel_rfl⟩
theorem i_spec_ReadMessage {xs : List A} {res : V} {outs : List (List V)} (hrun : forceH (iniH 81 xs) fun H => W Try.prog 81 (bodyOf Try.f79) H (EndsW 81 E [(4, 101, true), (5, 4, false)] xs (Q1 res outs))) (h : (okAs xs && Nat.ble xs.length 81) = true := by rfl) : F 79 xs res outs := ⟨e_spec_ReadMessage, Fn.one Try.func79 rfl rfl E_ok rfl h hrun⟩
abbrev n_impl_ReadMessage : FuncId := 80
theorem e_impl_ReadMessage : Enters Try.prog 80 := ⟨Try.f80, Try.func80, by kernel_rfl, by kernel_rfl⟩
theorem i_impl_ReadMessage {xs : List A} {res : V} {outs : List (List V)} (hrun : forceH (iniH 107 xs) fun H => W Try.prog 107 (bodyOf Try.f80) H (EndsW 107 E [(4, 101, true), (5, 4, false)] xs (Q1 res outs))) (h : (okAs xs && Nat.ble xs.length 107) = true := by rfl) : F 80 xs res outs := ⟨e_impl_ReadMessage, Fn.one Try.func80 rfl rfl E_ok rfl h hrun⟩
abbrev n_spec_l3Free : FuncId := 81
theorem e_spec_l3Free : Enters Try.prog 81 := ⟨Try.f81, Try.func81, by kernel_rfl, by kernel_rfl⟩
theorem i_spec_l3Free {xs : List A} {res : V} {outs : List (List V)} (hrun : forceH (iniH 13 xs) fun H => W Try.prog 13 (bodyOf Try.f81) H (EndsW 13 E [(4, 54, true)] xs (Q1 res outs))) (h : (okAs xs && Nat.ble xs.length 13) = true := by rfl) : F 81 xs res outs := ⟨e_spec_l3Free, Fn.one Try.func81 rfl rfl E_ok rfl h hrun⟩
abbrev n_impl_Worker_freed : FuncId := 82
theorem e_impl_Worker_freed : Enters Try.prog 82 := ⟨Try.f82, Try.func82, by kernel_rfl, by kernel_rfl⟩
theorem i_impl_Worker_freed {xs : List A} {res : V} {outs : List (List V)} (hrun : forceH (iniH 13 xs) fun H => W Try.prog 13 (bodyOf Try.f82) H (EndsW 13 E [(4, 54, true)] xs (Q1 res outs))) (h : (okAs xs && Nat.ble xs.length 13) = true := by rfl) : F 82 xs res outs := ⟨e_impl_Worker_freed, Fn.one Try.func82 rfl rfl E_ok rfl h hrun⟩
abbrev n_laws_markStringS : FuncId := 83
theorem e_laws_markStringS : Enters Try.prog 83 := ⟨Try.f83, Try.func83, by kernel_rfl, by kernel_rfl⟩
theorem i_laws_markStringS {xs : List A} {res : V} {outs : List (List V)} (hrun : forceH (iniH 20 xs) fun H => W Try.prog 20 (bodyOf Try.f83) H (EndsW 20 E [(4, 3, false)] xs (Q1 res outs))) (h : (okAs xs && Nat.ble xs.length 20) = true := by rfl) : F 83 xs res outs := ⟨e_laws_markStringS, Fn.one Try.func83 rfl rfl E_ok rfl h hrun⟩
abbrev n_laws_heldStringS : FuncId := 84
theorem e_laws_heldStringS : Enters Try.prog 84 := ⟨Try.f84, Try.func84, by kernel_rfl, by kernel_rfl⟩
theorem i_laws_heldStringS {xs : List A} {res : V} {outs : List (List V)} (hrun : forceH (iniH 22 xs) fun H => W Try.prog 22 (bodyOf Try.f84) H (EndsW 22 E [(4, 3, false)] xs (Q1 res outs))) (h : (okAs xs && Nat.ble xs.length 22) = true := by rfl) : F 84 xs res outs := ⟨e_laws_heldStringS, Fn.one Try.func84 rfl rfl E_ok rfl h hrun⟩
abbrev n_spec_l3Copy : FuncId := 85
theorem e_spec_l3Copy : Enters Try.prog 85 := ⟨Try.f85, Try.func85, by kernel_rfl, by kernel_rfl⟩
theorem i_spec_l3Copy {xs : List A} {res : V} {outs : List (List V)} (hrun : forceH (iniH 9 xs) fun H => W Try.prog 9 (bodyOf Try.f85) H (EndsW 9 E [(2, 54, true)] xs (Q1 res outs))) (h : (okAs xs && Nat.ble xs.length 9) = true := by rfl) : F 85 xs res outs := ⟨e_spec_l3Copy, Fn.one Try.func85 rfl rfl E_ok rfl h hrun⟩
abbrev n_impl_Worker_twin : FuncId := 86
theorem e_impl_Worker_twin : Enters Try.prog 86 := ⟨Try.f86, Try.func86, by kernel_rfl, by kernel_rfl⟩
theorem i_impl_Worker_twin {xs : List A} {res : V} {outs : List (List V)} (hrun : forceH (iniH 8 xs) fun H => W Try.prog 8 (bodyOf Try.f86) H (EndsW 8 E [(2, 54, true)] xs (Q1 res outs))) (h : (okAs xs && Nat.ble xs.length 8) = true := by rfl) : F 86 xs res outs := ⟨e_impl_Worker_twin, Fn.one Try.func86 rfl rfl E_ok rfl h hrun⟩
abbrev n_laws_szTask : FuncId := 87
theorem e_laws_szTask : Enters Try.prog 87 := ⟨Try.f87, Try.func87, by kernel_rfl, by kernel_rfl⟩
theorem i_laws_szTask {xs : List A} {res : V} {outs : List (List V)} (hrun : forceH (iniH 19 xs) fun H => W Try.prog 19 (bodyOf Try.f87) H (EndsW 19 E [(4, 3, false)] xs (Q1 res outs))) (h : (okAs xs && Nat.ble xs.length 19) = true := by rfl) : F 87 xs res outs := ⟨e_laws_szTask, Fn.one Try.func87 rfl rfl E_ok rfl h hrun⟩
abbrev n_laws_toTask : FuncId := 88
theorem e_laws_toTask : Enters Try.prog 88 := ⟨Try.f88, Try.func88, by kernel_rfl, by kernel_rfl⟩
theorem i_laws_toTask {xs : List A} {res : V} {outs : List (List V)} (hrun : forceH (iniH 15 xs) fun H => W Try.prog 15 (bodyOf Try.f88) H (EndsW 15 E [(2, 96, true)] xs (Q1 res outs))) (h : (okAs xs && Nat.ble xs.length 15) = true := by rfl) : F 88 xs res outs := ⟨e_laws_toTask, Fn.one Try.func88 rfl rfl E_ok rfl h hrun⟩
abbrev n_laws_eqTask : FuncId := 89
theorem e_laws_eqTask : Enters Try.prog 89 := ⟨Try.f89, Try.func89, by kernel_rfl, by kernel_rfl⟩
theorem i_laws_eqTask {xs : List A} {res : V} {outs : List (List V)} (hrun : forceH (iniH 21 xs) fun H => W Try.prog 21 (bodyOf Try.f89) H (EndsW 21 E [(4, 4, false)] xs (Q1 res outs))) (h : (okAs xs && Nat.ble xs.length 21) = true := by rfl) : F 89 xs res outs := ⟨e_laws_eqTask, Fn.one Try.func89 rfl rfl E_ok rfl h hrun⟩
abbrev n_spec_FormMessage : FuncId := 90
theorem e_spec_FormMessage : Enters Try.prog 90 := ⟨Try.f90, Try.func90, by kernel_rfl, by kernel_rfl⟩
theorem i_spec_FormMessage {xs : List A} {res : V} {outs : List (List V)} (hrun : forceH (iniH 23 xs) fun H => W Try.prog 23 (bodyOf Try.f90) H (EndsW 23 E [(4, 9, false)] xs (Q1 res outs))) (h : (okAs xs && Nat.ble xs.length 23) = true := by rfl) : F 90 xs res outs := ⟨e_spec_FormMessage, Fn.one Try.func90 rfl rfl E_ok rfl h hrun⟩
abbrev n_impl_seal : FuncId := 91
theorem e_impl_seal : Enters Try.prog 91 := ⟨Try.f91, Try.func91, by kernel_rfl, by kernel_rfl⟩
theorem i_impl_seal {xs : List A} {res : V} {outs : List (List V)} (hrun : forceH (iniH 13 xs) fun H => W Try.prog 13 (bodyOf Try.f91) H (EndsW 13 E [(4, 9, false)] xs (Q1 res outs))) (h : (okAs xs && Nat.ble xs.length 13) = true := by rfl) : F 91 xs res outs := ⟨e_impl_seal, Fn.one Try.func91 rfl rfl E_ok rfl h hrun⟩
abbrev n_impl_Message_valid : FuncId := 92
theorem e_impl_Message_valid : Enters Try.prog 92 := ⟨Try.f92, Try.func92, by kernel_rfl, by kernel_rfl⟩
theorem i_impl_Message_valid {xs : List A} {res : V} {outs : List (List V)} (hrun : forceH (iniH 108 xs) fun H => W Try.prog 108 (bodyOf Try.f92) H (EndsW 108 E [(2, 4, false)] xs (Q1 res outs))) (h : (okAs xs && Nat.ble xs.length 108) = true := by rfl) : F 92 xs res outs := ⟨e_impl_Message_valid, Fn.one Try.func92 rfl rfl E_ok rfl h hrun⟩
abbrev n_impl_clone : FuncId := 93
theorem e_impl_clone : Enters Try.prog 93 := ⟨Try.f93, Try.func93, by kernel_rfl, by kernel_rfl⟩
theorem i_impl_clone {xs : List A} {res : V} {outs : List (List V)} (hrun : forceH (iniH 6 xs) fun H => W Try.prog 6 (bodyOf Try.f93) H (EndsW 6 E [(2, 34, false)] xs (Q1 res outs))) (h : (okAs xs && Nat.ble xs.length 6) = true := by rfl) : F 93 xs res outs := ⟨e_impl_clone, Fn.one Try.func93 rfl rfl E_ok rfl h hrun⟩
abbrev n_laws_szIntS : FuncId := 94
theorem e_laws_szIntS : Enters Try.prog 94 := ⟨Try.f94, Try.func94, by kernel_rfl, by kernel_rfl⟩
theorem i_laws_szIntS {xs : List A} {res : V} {outs : List (List V)} (hrun : forceH (iniH 12 xs) fun H => W Try.prog 12 (bodyOf Try.f94) H (EndsW 12 E [(4, 3, false)] xs (Q1 res outs))) (h : (okAs xs && Nat.ble xs.length 12) = true := by rfl) : F 94 xs res outs := ⟨e_laws_szIntS, Fn.one Try.func94 rfl rfl E_ok rfl h hrun⟩
abbrev n_laws_toIntS : FuncId := 95
theorem e_laws_toIntS : Enters Try.prog 95 := ⟨Try.f95, Try.func95, by kernel_rfl, by kernel_rfl⟩
theorem i_laws_toIntS {xs : List A} {res : V} {outs : List (List V)} (hrun : forceH (iniH 22 xs) fun H => W Try.prog 22 (bodyOf Try.f95) H (EndsW 22 E [(2, 94, false)] xs (Q1 res outs))) (h : (okAs xs && Nat.ble xs.length 22) = true := by rfl) : F 95 xs res outs := ⟨e_laws_toIntS, Fn.one Try.func95 rfl rfl E_ok rfl h hrun⟩
abbrev n_laws_eqIntS : FuncId := 96
theorem e_laws_eqIntS : Enters Try.prog 96 := ⟨Try.f96, Try.func96, by kernel_rfl, by kernel_rfl⟩
theorem i_laws_eqIntS {xs : List A} {res : V} {outs : List (List V)} (hrun : forceH (iniH 26 xs) fun H => W Try.prog 26 (bodyOf Try.f96) H (EndsW 26 E [(4, 4, false)] xs (Q1 res outs))) (h : (okAs xs && Nat.ble xs.length 26) = true := by rfl) : F 96 xs res outs := ⟨e_laws_eqIntS, Fn.one Try.func96 rfl rfl E_ok rfl h hrun⟩
abbrev n_spec_l2Ok : FuncId := 97
theorem e_spec_l2Ok : Enters Try.prog 97 := ⟨Try.f97, Try.func97, by kernel_rfl, by kernel_rfl⟩
theorem i_spec_l2Ok {xs : List A} {res : V} {outs : List (List V)} (hrun : forceH (iniH 120 xs) fun H => W Try.prog 120 (bodyOf Try.f97) H (EndsW 120 E [(2, 4, false)] xs (Q1 res outs))) (h : (okAs xs && Nat.ble xs.length 120) = true := by rfl) : F 97 xs res outs := ⟨e_spec_l2Ok, Fn.one Try.func97 rfl rfl E_ok rfl h hrun⟩
abbrev n_spec_l2Body : FuncId := 98
theorem e_spec_l2Body : Enters Try.prog 98 := ⟨Try.f98, Try.func98, by kernel_rfl, by kernel_rfl⟩
theorem i_spec_l2Body {xs : List A} {res : V} {outs : List (List V)} (hrun : forceH (iniH 67 xs) fun H => W Try.prog 67 (bodyOf Try.f98) H (EndsW 67 E [(2, 9, false)] xs (Q1 res outs))) (h : (okAs xs && Nat.ble xs.length 67) = true := by rfl) : F 98 xs res outs := ⟨e_spec_l2Body, Fn.one Try.func98 rfl rfl E_ok rfl h hrun⟩
abbrev n_spec_l2Uses : FuncId := 99
theorem e_spec_l2Uses : Enters Try.prog 99 := ⟨Try.f99, Try.func99, by kernel_rfl, by kernel_rfl⟩
theorem i_spec_l2Uses {xs : List A} {res : V} {outs : List (List V)} (hrun : forceH (iniH 16 xs) fun H => W Try.prog 16 (bodyOf Try.f99) H (EndsW 16 E [(2, 4, false), (3, 4, false), (4, 4, false), (5, 4, false), (6, 4, false)] xs (Q1 res outs))) (h : (okAs xs && Nat.ble xs.length 16) = true := by rfl) : F 99 xs res outs := ⟨e_spec_l2Uses, Fn.one Try.func99 rfl rfl E_ok rfl h hrun⟩
end Go.K

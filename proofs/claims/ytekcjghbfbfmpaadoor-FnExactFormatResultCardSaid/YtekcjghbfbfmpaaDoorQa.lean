/-
The functions of the program as the machine runs them: printed equations; the library's functions at this program. No condition.
-/
import Derived.Test.YtekcjghbfbfmpaaDoorProg
import Derived.Test.YtekcjghbfbfmpaaDoorOb
import Derived.KernelRfl
import Derived.Shelf.Strings.Builder1
import Derived.Shelf.Strings.Builder2
import Derived.Shelf.Strings.OnBuilder
import Derived.Shelf.Strconv.Itoa0
import Derived.Shelf.Strconv.Itoa1
import Derived.Shelf.LaysM
import Derived.Shelf.Strconv.Itoa2
import Derived.Shelf.Strconv.Itoa3
import Derived.Shelf.Sort.Plain
import Derived.Ground.Names2Prog
import Derived.Shelf.Slices.CompactI
set_option linter.unusedVariables false
set_option linter.unusedSimpArgs false
/-! DB -/
namespace Go.Proofs.YtekcjghbfbfmpaaDoor.Q
open Go Ovi
noncomputable abbrev P := Tryd.prog
def sg : FuncId → Sig := fun f => match f with
  | 3 => [(false, [.bool])]
  | 4 => [(false, [.bool])]
  | 5 => [(false, [.bool])]
  | 6 => [(false, [.int .i64])]
  | 7 => [(false, [.str])]
  | 8 => [(false, [.own 47 1])]
  | 9 => [(false, [.str])]
  | 10 => [(false, [.bool])]
  | 11 => [(false, [.int .i64])]
  | 12 => [(false, [.str])]
  | 13 => [(true, [.own 83 3, .own 125 2, .int .i64, .own 72 2])]
  | 14 => [(false, [.str])]
  | 15 => [(false, [.bool])]
  | 16 => [(false, [.int .i64])]
  | 17 => [(false, [.int .i64])]
  | 18 => [(false, [.str])]
  | 19 => [(false, [.own 83 3])]
  | 20 => [(true, [.own 3 1, .own 114 2])]
  | 21 => [(false, [.str])]
  | 22 => [(false, [.bool])]
  | 23 => [(false, [.bool])]
  | 24 => [(false, [.int .i64])]
  | 25 => [(false, [.str])]
  | 26 => [(false, [.own 3 1])]
  | 27 => [(false, [.str])]
  | 28 => [(false, [.str])]
  | 29 => [(false, [.bool])]
  | 30 => [(false, [.int .i64])]
  | 31 => [(false, [.int .i64])]
  | 32 => [(false, [.str])]
  | 33 => [(false, [.str])]
  | 34 => [(true, [.own 83 3, .own 125 2])]
  | 35 => [(false, [.own 72 2])]
  | 36 => [(false, [.str])]
  | 37 => [(false, [.str])]
  | 38 => [(false, [.bool])]
  | 39 => [(false, [.bool])]
  | 40 => [(false, [.int .i64])]
  | 41 => [(false, [.int .i64])]
  | 42 => [(false, [.bool])]
  | 43 => [(false, [.str])]
  | 44 => [(false, [.str])]
  | 45 => [(true, [.str, .int .i64, .bool])]
  | 46 => [(false, [.own 114 2])]
  | 47 => [(false, [.bool])]
  | 48 => [(false, [.str])]
  | 49 => [(false, [.str])]
  | 50 => [(false, [.bool])]
  | 51 => [(false, [.bool])]
  | 52 => [(false, [.int .i64]), (false, [.bool])]
  | 53 => [(false, [.str])]
  | 54 => [(false, [.bool])]
  | 55 => [(false, [.bool])]
  | 56 => [(false, [.bool])]
  | 57 => [(false, [.str])]
  | 58 => []
  | 60 => [(false, [.str])]
  | 61 => [(false, [.int .i64])]
  | 62 => [(false, [.int .i64])]
  | 63 => [(false, [.own 125 2])]
  | 64 => [(true, [.int .i64, .own 3 1])]
  | 65 => [(false, [.bool])]
  | 66 => [(false, [.bool])]
  | 67 => [(false, [.int .i64])]
  | 68 => [(false, [.ro 1])]
  | 69 => [(false, [.bool])]
  | 70 => [(false, [.bool])]
  | 71 => [(false, [.str])]
  | 72 => [(true, [.int .i64, .own 3 1])]
  | 73 => [(false, [.own 3 1])]
  | 74 => [(false, [.bool])]
  | 75 => [(false, [.bool])]
  | 76 => [(false, [.bool])]
  | 77 => [(false, [.bool])]
  | 78 => [(false, [.bool])]
  | 79 => [(false, [.str])]
  | 80 => [(false, [.bool])]
  | 81 => [(false, [.str])]
  | 82 => []
  | 83 => []
  | 84 => [(false, [.int .i64])]
  | 85 => [(true, [.int .i64, .own 3 1])]
  | 86 => [(false, [.bool])]
  | 87 => [(false, [.ro 1])]
  | 88 => [(false, [.bool])]
  | 89 => [(true, [])]
  | 90 => [(true, []), (true, [])]
  | 91 => [(false, [.bool])]
  | 92 => [(false, [.bool])]
  | 93 => [(false, [.bool])]
  | 94 => [(false, [.int .i64])]
  | 95 => [(false, [.int .i64])]
  | 96 => [(false, [.str])]
  | 99 => [(false, [.bool])]
  | 100 => []
  | 101 => [(false, [.int .i64])]
  | 102 => [(false, [.int .i64])]
  | 103 => [(false, [.bool])]
  | 104 => [(false, [.bool])]
  | 105 => [(false, [.str])]
  | 106 => []
  | 107 => []
  | 108 => []
  | 109 => [(false, [.int .i64]), (false, [.int .i64])]
  | 110 => []
  | 111 => [(false, [.bool])]
  | 112 => [(false, [.bool])]
  | 113 => [(false, [.int .i64])]
  | 114 => [(false, [.int .i64]), (false, [.bool])]
  | 115 => [(false, [.int .i64])]
  | 116 => [(false, [.int .i64])]
  | 117 => [(false, [.bool])]
  | 118 => [(false, [.str])]
  | 119 => [(false, [.int .i64])]
  | 120 => []
  | 121 => [(false, [.own 5 1]), (false, [.str])]
  | 122 => []
  | 123 => [(false, [.int .u64])]
  | 124 => [(false, [.int .u64])]
  | 125 => [(false, [.int .i64])]
  | 126 => [(false, [.int .i64])]
  | 127 => [(false, [.bool])]
  | 128 => [(false, [.int .i64])]
  | 129 => [(false, [.int .i64])]
  | 130 => [(false, [.bool])]
  | 131 => [(false, [.int .i64])]
  | 132 => [(false, [.int .i64]), (false, [.int .i64])]
  | 133 => [(false, [.int .i64])]
  | 134 => [(false, [.int .i64])]
  | 157 => []
  | _ => []
def lp : FuncId → Nat → LoopHint := fun f l => match f, l with
  | 6, 5 => [(0, .same), (1, .same), (5, .same)]
  | 7, 3 => [(0, .same), (3, .same), (4, .same)]
  | 7, 9 => [(0, .same), (3, .same), (4, .same), (5, .same)]
  | 8, 3 => [(0, .same), (3, .own 47 1), (4, .same)]
  | 9, 3 => [(3, .own 9 1), (10, .same), (11, .same), (12, .same)]
  | 9, 7 => [(3, .own 9 1), (6, .own 9 1), (10, .same), (11, .same), (12, .same), (17, .same), (18, .same), (19, .same)]
  | 10, 4 => [(0, .same), (1, .same), (5, .same)]
  | 12, 3 => [(1, .box [.same, .same, .same, .same]), (3, .same), (4, .same)]
  | 14, 3 => [(3, .own 9 1), (11, .same), (12, .same), (13, .same)]
  | 16, 5 => [(0, .same), (1, .same), (5, .same)]
  | 18, 5 => [(0, .same), (3, .box [.same, .same]), (5, .same), (6, .same)]
  | 19, 3 => [(0, .same), (3, .own 83 3), (4, .same)]
  | 21, 5 => [(0, .same), (3, .box [.same, .same]), (5, .same), (13, .same), (14, .same), (15, .same)]
  | 22, 4 => [(0, .same), (1, .same), (5, .same)]
  | 26, 3 => [(0, .same), (3, .own 3 1), (4, .same)]
  | 28, 12 => [(0, .same), (1, .same), (5, .same), (39, .same), (40, .same), (41, .same)]
  | 28, 22 => [(1, .same), (8, .box [.same, .same]), (63, .same), (64, .same), (65, .same)]
  | 29, 4 => [(0, .same), (1, .same), (5, .same)]
  | 31, 5 => [(0, .same), (1, .same), (5, .same)]
  | 33, 3 => [(1, .box [.same, .same]), (3, .same), (4, .same)]
  | 35, 3 => [(0, .same), (3, .own 72 2), (4, .same)]
  | 37, 3 => [(1, .box [.same, .same]), (3, .own 9 1), (9, .same), (10, .same), (11, .same)]
  | 39, 4 => [(0, .same), (1, .same), (5, .same)]
  | 41, 5 => [(0, .same), (1, .same), (5, .same)]
  | 42, 3 => [(0, .same), (3, .box [.same, .same]), (5, .same), (6, .same)]
  | 42, 8 => [(3, .box [.same, .same]), (5, .same), (7, .same)]
  | 44, 3 => [(0, .same), (1, .same), (5, .same), (6, .same)]
  | 46, 3 => [(0, .same), (3, .own 114 2), (4, .same)]
  | 49, 3 => [(0, .same), (5, .own 9 1), (9, .same), (10, .same), (11, .same)]
  | 51, 4 => [(0, .same), (1, .same), (5, .same)]
  | 53, 5 => [(0, .same), (3, .same), (4, .same)]
  | 61, 5 => [(0, .same), (1, .same), (5, .same)]
  | 63, 3 => [(0, .same), (3, .own 125 2), (4, .same)]
  | 65, 4 => [(0, .same), (1, .same), (5, .same)]
  | 68, 3 => [(0, .same), (3, .data 1), (4, .same)]
  | 68, 6 => [(0, .same), (3, .data 1), (4, .same), (5, .same)]
  | 69, 4 => [(3, .box [.same, .same]), (5, .same)]
  | 70, 2 => [(0, .same), (1, .same), (5, .same)]
  | 71, 5 => [(3, .box [.same, .same]), (5, .same), (6, .same)]
  | 73, 3 => [(3, .own 3 1), (9, .same), (10, .same), (11, .same)]
  | 73, 6 => [(3, .own 3 1), (9, .same), (10, .same), (11, .same), (16, .data 1), (17, .same), (18, .same)]
  | 79, 5 => [(5, .same), (19, .same), (20, .same), (21, .same)]
  | 87, 2 => [(0, .same), (1, .same), (5, .same)]
  | 88, 2 => [(0, .same), (3, .same)]
  | 90, 4 => [(0, .same), (3, .same)]
  | 90, 9 => [(0, .same), (3, .same), (4, .same), (5, .same)]
  | 94, 2 => [(0, .same), (1, .same), (7, .same), (8, .same)]
  | 95, 2 => [(0, .same), (1, .same), (7, .same), (8, .same)]
  | 100, 2 => [(0, .same), (1, .same), (2, .same), (3, .same), (8, .same), (9, .same)]
  | 102, 2 => [(0, .same), (1, .same), (7, .same), (8, .same)]
  | 103, 2 => [(0, .same), (5, .same), (6, .same), (7, .same)]
  | 106, 1 => [(0, .same), (1, .same), (2, .same), (6, .same)]
  | 106, 4 => [(0, .same), (1, .same), (2, .same), (6, .same), (7, .same)]
  | 107, 4 => [(0, .same), (6, .same), (7, .same), (8, .same), (9, .same)]
  | 107, 8 => [(0, .same), (6, .same), (7, .same), (10, .same)]
  | 108, 5 => [(0, .same), (1, .same), (6, .same), (7, .box [.same]), (8, .same), (9, .same)]
  | 110, 2 => [(0, .same), (6, .same), (7, .same)]
  | 111, 3 => [(0, .same), (1, .same), (2, .same), (7, .same), (8, .same)]
  | 111, 5 => [(0, .same), (1, .same), (2, .same), (7, .same), (8, .same)]
  | 111, 14 => [(0, .same), (1, .same), (2, .same), (7, .same), (8, .same), (9, .same)]
  | 111, 20 => [(0, .same), (1, .same), (2, .same), (7, .same), (8, .same), (10, .same)]
  | 113, 3 => [(0, .same), (1, .same), (9, .same), (10, .same)]
  | 113, 5 => [(0, .same), (1, .same), (9, .same), (10, .same)]
  | 114, 3 => [(0, .same), (1, .same), (10, .same), (11, .same)]
  | 114, 5 => [(0, .same), (1, .same), (10, .same), (11, .same)]
  | 114, 13 => [(0, .same), (1, .same), (10, .same), (11, .same)]
  | 114, 15 => [(0, .same), (1, .same), (10, .same), (11, .same)]
  | 120, 1 => [(0, .same), (1, .same), (4, .same)]
  | 121, 11 => [(0, .same), (1, .same), (3, .same), (4, .same), (10, .own 5 1), (11, .same), (12, .box [.same]), (13, .same), (14, .same), (15, .same), (16, .same)]
  | 121, 18 => [(0, .same), (1, .same), (3, .same), (4, .same), (10, .own 5 1), (11, .same), (12, .box [.same]), (13, .same), (17, .same)]
  | 122, 1 => [(0, .same), (2, .same), (3, .same), (8, .same)]
  | _, _ => []
def hs : Hints := { sig := sg, loops := lp, joins := fun _ _ => none }

def prim : FuncId → Option (Args → Option Res) := prims [(89, sortP), (90, compactP), (28, joinP), (81, itoaQ)]
noncomputable def C (k : Nat) : CallF := evCall P hs prim k
end Go.Proofs.YtekcjghbfbfmpaaDoor.Q

/-! DFa -/
namespace Go.Proofs.YtekcjghbfbfmpaaDoor.Q
open Go Ovi
set_option maxRecDepth 1000000
theorem F3.eq (k : Nat) (call : CallF) (a0 : Ovi.Rows) : evFnK P hs call (3 : FuncId) k Tryd.f3 [AV.d (D.list 1 a0)] = bindR (call 6 [AV.d (D.list 1 a0), AV.d (D.int IntKind.i64 (1048576 : Int))]) fun r3 => bindI (resI IntKind.i64 1 false 1 r3 0 0) fun n4 => ite' (decide (n4 < (0 : Int))) (some ([(false, [RL.d (D.bool true)])])) (bindR (call 8 [AV.d (D.list 1 a0)]) fun r5 => bindL (resO 47 1 1 false 1 r5 0 0) fun l6 => bindR (call 7 [AV.d (D.list 1 l6)]) fun r7 => bindS (resS 1 false 1 r7 0 0) fun s8 => bindR (call 8 [AV.d (D.list 1 a0)]) fun r9 => bindL (resO 47 1 1 false 1 r9 0 0) fun l10 => bindR (call 9 [AV.d (D.list 1 l10)]) fun r11 => bindS (resS 1 false 1 r11 0 0) fun s12 => ite' (!s12 == s8) (some ([(false, [RL.d (D.bool false)])])) (bindR (call 8 [AV.d (D.list 1 a0)]) fun r13 => bindL (resO 47 1 1 false 1 r13 0 0) fun l14 => bindR (call 10 [AV.d (D.list 1 l10), AV.d (D.list 1 l14)]) fun r15 => bindB (resB 1 false 1 r15 0 0) fun b16 => ite' (!b16) (some ([(false, [RL.d (D.bool false)])])) (some ([(false, [RL.d (D.bool true)])])))) := by kernel_rfl
theorem F3.run (k : Nat) (a0 : Ovi.Rows) : C (k + 1) 3 [AV.d (D.list 1 a0)] = bindR ((C k) 6 [AV.d (D.list 1 a0), AV.d (D.int IntKind.i64 (1048576 : Int))]) fun r3 => bindI (resI IntKind.i64 1 false 1 r3 0 0) fun n4 => ite' (decide (n4 < (0 : Int))) (some ([(false, [RL.d (D.bool true)])])) (bindR ((C k) 8 [AV.d (D.list 1 a0)]) fun r5 => bindL (resO 47 1 1 false 1 r5 0 0) fun l6 => bindR ((C k) 7 [AV.d (D.list 1 l6)]) fun r7 => bindS (resS 1 false 1 r7 0 0) fun s8 => bindR ((C k) 8 [AV.d (D.list 1 a0)]) fun r9 => bindL (resO 47 1 1 false 1 r9 0 0) fun l10 => bindR ((C k) 9 [AV.d (D.list 1 l10)]) fun r11 => bindS (resS 1 false 1 r11 0 0) fun s12 => ite' (!s12 == s8) (some ([(false, [RL.d (D.bool false)])])) (bindR ((C k) 8 [AV.d (D.list 1 a0)]) fun r13 => bindL (resO 47 1 1 false 1 r13 0 0) fun l14 => bindR ((C k) 10 [AV.d (D.list 1 l10), AV.d (D.list 1 l14)]) fun r15 => bindB (resB 1 false 1 r15 0 0) fun b16 => ite' (!b16) (some ([(false, [RL.d (D.bool false)])])) (some ([(false, [RL.d (D.bool true)])])))) := (show C (k + 1) 3 [AV.d (D.list 1 a0)] = evFnK P hs (C k) 3 k Tryd.f3 [AV.d (D.list 1 a0)] by kernel_rfl).trans (F3.eq k (C k) a0)
noncomputable def F6.L5 (k : Nat) (call : CallF)  (n : Nat) (v0 : Ovi.Rows) (v1 : Int) (v2 : Int) : Option Res := loopFn P hs call 6 k Tryd.f6 [1, 1, 1, 0, 1, 0] [] n [(0, AV.d (D.list 1 v0)), (1, AV.d (D.int IntKind.i64 v1)), (5, AV.d (D.int IntKind.i64 v2))] []
theorem F6.L5.zero (k : Nat) (call : CallF)  (v0 : Ovi.Rows) (v1 : Int) (v2 : Int) : F6.L5 k call  0 v0 v1 v2 = none := by kernel_rfl
theorem F6.L5.succ (k : Nat) (call : CallF)  (n : Nat) (v0 : Ovi.Rows) (v1 : Int) (v2 : Int) : F6.L5 k call  (n + 1) v0 v1 v2 = ite' (decide (v2 < (↑(List.length v0) : Int))) (ite' (inR v2 (List.length v0)) (bindL (cellL 1 v0 v2.toNat 0) fun l8 => bindR (call 24 [AV.d (D.list 1 l8), AV.d (D.int IntKind.i64 v1)]) fun r9 => bindI (resI IntKind.i64 1 false 1 r9 0 0) fun n10 => ite' (decide (n10 < (0 : Int))) (some ([(false, [RL.d (D.int IntKind.i64 (-1 : Int))])])) (F6.L5 k call  (n) (v0) (n10) (IntKind.i64.wrap (v2 + (1 : Int))))) (none)) (some ([(false, [RL.d (D.int IntKind.i64 v1)])])) := by kernel_rfl
theorem F6.eq (k : Nat) (call : CallF) (a0 : Ovi.Rows) (a1 : Int) : evFnK P hs call (6 : FuncId) k Tryd.f6 [AV.d (D.list 1 a0), AV.d (D.int IntKind.i64 a1)] = ite' (decide (IntKind.i64.wrap (a1 - (↑(List.length a0) : Int)) < (0 : Int))) (some ([(false, [RL.d (D.int IntKind.i64 (-1 : Int))])])) (F6.L5 k call  (k) (a0) (IntKind.i64.wrap (a1 - (↑(List.length a0) : Int))) ((0 : Int))) := by kernel_rfl
theorem F6.run (k : Nat) (a0 : Ovi.Rows) (a1 : Int) : C (k + 1) 6 [AV.d (D.list 1 a0), AV.d (D.int IntKind.i64 a1)] = ite' (decide (IntKind.i64.wrap (a1 - (↑(List.length a0) : Int)) < (0 : Int))) (some ([(false, [RL.d (D.int IntKind.i64 (-1 : Int))])])) (F6.L5 k (C k)  (k) (a0) (IntKind.i64.wrap (a1 - (↑(List.length a0) : Int))) ((0 : Int))) := (show C (k + 1) 6 [AV.d (D.list 1 a0), AV.d (D.int IntKind.i64 a1)] = evFnK P hs (C k) 6 k Tryd.f6 [AV.d (D.list 1 a0), AV.d (D.int IntKind.i64 a1)] by kernel_rfl).trans (F6.eq k (C k) a0 a1)
noncomputable def F7.L3 (k : Nat) (call : CallF)  (n : Nat) (v0 : Ovi.Rows) (v1 : List UInt8) (v2 : Int) : Option Res := loopFn P hs call 7 k Tryd.f7 [1, 1, 0, 1, 0] [] n [(0, AV.d (D.list 1 v0)), (3, AV.d (D.str v1)), (4, AV.d (D.int IntKind.i64 v2))] []
noncomputable def F7.L9 (k : Nat) (call : CallF) (k3 : Nat) (n : Nat) (v0 : Ovi.Rows) (v1 : List UInt8) (v2 : Int) (v3 : Int) : Option Res := loopFn P hs call 7 k Tryd.f7 [1, 1, 0, 1, 0, 0, 1, 0, 0, 1, 1, 0, 1, 0] [k3] n [(0, AV.d (D.list 1 v0)), (3, AV.d (D.str v1)), (4, AV.d (D.int IntKind.i64 v2)), (5, AV.d (D.int IntKind.i64 v3))] []
theorem F7.L3.zero (k : Nat) (call : CallF)  (v0 : Ovi.Rows) (v1 : List UInt8) (v2 : Int) : F7.L3 k call  0 v0 v1 v2 = none := by kernel_rfl
theorem F7.L3.succ (k : Nat) (call : CallF)  (n : Nat) (v0 : Ovi.Rows) (v1 : List UInt8) (v2 : Int) : F7.L3 k call  (n + 1) v0 v1 v2 = ite' (decide (v2 < (↑(List.length v0) : Int))) (ite' (decide (v2 > (0 : Int))) (ite' (fits (v1.length + 1)) (ite' (fits ((v1 ++ ([(32 : UInt8)] : List UInt8)).length + 1)) (F7.L9 k call n (k) (v0) (v1 ++ ([(32 : UInt8)] : List UInt8) ++ ([(40 : UInt8)] : List UInt8)) (v2) ((0 : Int))) (none)) (none)) (ite' (fits (v1.length + 1)) (F7.L9 k call n (k) (v0) (v1 ++ ([(40 : UInt8)] : List UInt8)) (v2) ((0 : Int))) (none))) (some ([(false, [RL.d (D.str v1)])])) := by kernel_rfl
theorem F7.L9.zero (k : Nat) (call : CallF) (k3 : Nat) (v0 : Ovi.Rows) (v1 : List UInt8) (v2 : Int) (v3 : Int) : F7.L9 k call k3 0 v0 v1 v2 v3 = none := by kernel_rfl
theorem F7.L9.succ (k : Nat) (call : CallF) (k3 : Nat) (n : Nat) (v0 : Ovi.Rows) (v1 : List UInt8) (v2 : Int) (v3 : Int) : F7.L9 k call k3 (n + 1) v0 v1 v2 v3 = ite' (inR v2 (List.length v0)) (bindL (cellL 1 v0 v2.toNat 0) fun l9 => ite' (decide (v3 < (↑(List.length l9) : Int))) (ite' (decide (v3 > (0 : Int))) (ite' (fits (v1.length + 1)) (ite' (inR v2 (List.length v0)) (bindL (cellL 1 v0 v2.toNat 0) fun l10 => ite' (inR v3 (List.length l10)) (bindI (cellI IntKind.i64 l10 v3.toNat 0) fun n11 => bindR (call 25 [AV.d (D.int IntKind.i64 n11)]) fun r12 => bindS (resS 1 false 1 r12 0 0) fun s13 => ite' (fits ((v1 ++ ([(44 : UInt8)] : List UInt8)).length + s13.length)) (F7.L9 k call k3 (n) (v0) (v1 ++ ([(44 : UInt8)] : List UInt8) ++ s13) (v2) (IntKind.i64.wrap (v3 + (1 : Int)))) (none)) (none)) (none)) (none)) (ite' (inR v2 (List.length v0)) (bindL (cellL 1 v0 v2.toNat 0) fun l10 => ite' (inR v3 (List.length l10)) (bindI (cellI IntKind.i64 l10 v3.toNat 0) fun n11 => bindR (call 25 [AV.d (D.int IntKind.i64 n11)]) fun r12 => bindS (resS 1 false 1 r12 0 0) fun s13 => ite' (fits (v1.length + s13.length)) (F7.L9 k call k3 (n) (v0) (v1 ++ s13) (v2) (IntKind.i64.wrap (v3 + (1 : Int)))) (none)) (none)) (none))) (ite' (fits (v1.length + 1)) (F7.L3 k call  (k3) (v0) (v1 ++ ([(41 : UInt8)] : List UInt8)) (IntKind.i64.wrap (v2 + (1 : Int)))) (none))) (none) := by kernel_rfl
theorem F7.eq (k : Nat) (call : CallF) (a0 : Ovi.Rows) : evFnK P hs call (7 : FuncId) k Tryd.f7 [AV.d (D.list 1 a0)] = F7.L3 k call  (k) (a0) ([]) ((0 : Int)) := by kernel_rfl
theorem F7.run (k : Nat) (a0 : Ovi.Rows) : C (k + 1) 7 [AV.d (D.list 1 a0)] = F7.L3 k (C k)  (k) (a0) ([]) ((0 : Int)) := (show C (k + 1) 7 [AV.d (D.list 1 a0)] = evFnK P hs (C k) 7 k Tryd.f7 [AV.d (D.list 1 a0)] by kernel_rfl).trans (F7.eq k (C k) a0)
noncomputable def F8.L3 (k : Nat) (call : CallF)  (n : Nat) (v0 : Ovi.Rows) (v1 : Int) (v2 : Ovi.Rows) : Option Res := loopFn P hs call 8 k Tryd.f8 [1, 1, 0, 1, 0] [] n [(0, AV.d (D.list 1 v0)), (3, AV.own 100003 0), (4, AV.d (D.int IntKind.i64 v1))] [(100003, Blk.arr 47 1 0 v2)]
theorem F8.L3.zero (k : Nat) (call : CallF)  (v0 : Ovi.Rows) (v1 : Int) (v2 : Ovi.Rows) : F8.L3 k call  0 v0 v1 v2 = none := by kernel_rfl
theorem F8.L3.succ (k : Nat) (call : CallF)  (n : Nat) (v0 : Ovi.Rows) (v1 : Int) (v2 : Ovi.Rows) : F8.L3 k call  (n + 1) v0 v1 v2 = ite' (decide (v1 < (↑(List.length v0) : Int))) (ite' (inR v1 (List.length v0)) (bindL (cellL 1 v0 v1.toNat 0) fun l7 => bindR (call 26 [AV.d (D.list 1 l7)]) fun r8 => bindL (resO 3 1 1 false 1 r8 0 0) fun l9 => ite' (inR v1 (List.length v2)) (F8.L3 k call  (n) (v0) (IntKind.i64.wrap (v1 + (1 : Int))) (rowsSet v2 v1.toNat 0 [D.list 1 l9])) (none)) (none)) (some ([(false, [RL.row 47 1 v2])])) := by kernel_rfl
theorem F8.eq (k : Nat) (call : CallF) (a0 : Ovi.Rows) : evFnK P hs call (8 : FuncId) k Tryd.f8 [AV.d (D.list 1 a0)] = ite' ((↑(List.length a0) : Int) == (↑(List.length a0) : Int)) (ite' (inM (↑(List.length a0) : Int)) (F8.L3 k call  (k) (a0) ((0 : Int)) (rowsOf (↑(List.length a0) : Int) [D.list 1 []])) (none)) (none) := by kernel_rfl
theorem F8.run (k : Nat) (a0 : Ovi.Rows) : C (k + 1) 8 [AV.d (D.list 1 a0)] = ite' ((↑(List.length a0) : Int) == (↑(List.length a0) : Int)) (ite' (inM (↑(List.length a0) : Int)) (F8.L3 k (C k)  (k) (a0) ((0 : Int)) (rowsOf (↑(List.length a0) : Int) [D.list 1 []])) (none)) (none) := (show C (k + 1) 8 [AV.d (D.list 1 a0)] = evFnK P hs (C k) 8 k Tryd.f8 [AV.d (D.list 1 a0)] by kernel_rfl).trans (F8.eq k (C k) a0)
noncomputable def F9.L3 (k : Nat) (call : CallF)  (n : Nat) (v0 : Ovi.Rows) (v1 : Int) (v2 : Int) (v3 : List (List D)) : Option Res := loopFn P hs call 9 k Tryd.f9 [1, 1, 0, 1, 0] [] n [(3, AV.own 100003 0), (10, AV.d (D.list 1 v0)), (11, AV.d (D.int IntKind.i64 v1)), (12, AV.d (D.int IntKind.i64 v2))] [(100003, Blk.arr 9 1 0 v3)]
noncomputable def F9.L7 (k : Nat) (call : CallF) (k3 : Nat) (n : Nat) (v0 : Ovi.Rows) (v1 : Int) (v2 : Int) (v3 : Ovi.Rows) (v4 : Int) (v5 : Int) (v6 : List (List D)) (v7 : List (List D)) : Option Res := loopFn P hs call 9 k Tryd.f9 [1, 1, 0, 1, 0, 0, 1, 1, 0, 0, 1, 1, 0, 1, 0] [k3] n [(3, AV.own 100003 0), (6, AV.own 100006 0), (10, AV.d (D.list 1 v0)), (11, AV.d (D.int IntKind.i64 v1)), (12, AV.d (D.int IntKind.i64 v2)), (17, AV.d (D.list 1 v3)), (18, AV.d (D.int IntKind.i64 v4)), (19, AV.d (D.int IntKind.i64 v5))] [(100003, Blk.arr 9 1 0 v6), (100006, Blk.arr 9 1 0 v7)]
theorem F9.L3.zero (k : Nat) (call : CallF)  (v0 : Ovi.Rows) (v1 : Int) (v2 : Int) (v3 : List (List D)) : F9.L3 k call  0 v0 v1 v2 v3 = none := by kernel_rfl
theorem F9.L3.succ (k : Nat) (call : CallF)  (n : Nat) (v0 : Ovi.Rows) (v1 : Int) (v2 : Int) (v3 : List (List D)) : F9.L3 k call  (n + 1) v0 v1 v2 v3 = ite' (decide (v2 < v1)) (ite' (inR v2 (List.length v0)) (bindL (cellL 1 v0 v2.toNat 0) fun l8 => F9.L7 k call n (k) (v0) (v1) (v2) (l8) ((↑(List.length l8) : Int)) ((0 : Int)) (v3) ([])) (none)) (bindR (call 28 [AV.d (D.list 1 v3), AV.d (D.str [(32 : UInt8)])]) fun r8 => bindS (resS 1 false 1 r8 0 0) fun s9 => some ([(false, [RL.d (D.str s9)])])) := by kernel_rfl
theorem F9.L7.zero (k : Nat) (call : CallF) (k3 : Nat) (v0 : Ovi.Rows) (v1 : Int) (v2 : Int) (v3 : Ovi.Rows) (v4 : Int) (v5 : Int) (v6 : List (List D)) (v7 : List (List D)) : F9.L7 k call k3 0 v0 v1 v2 v3 v4 v5 v6 v7 = none := by kernel_rfl
theorem F9.L7.succ (k : Nat) (call : CallF) (k3 : Nat) (n : Nat) (v0 : Ovi.Rows) (v1 : Int) (v2 : Int) (v3 : Ovi.Rows) (v4 : Int) (v5 : Int) (v6 : List (List D)) (v7 : List (List D)) : F9.L7 k call k3 (n + 1) v0 v1 v2 v3 v4 v5 v6 v7 = ite' (decide (v5 < v4)) (ite' (inR v5 (List.length v3)) (bindI (cellI IntKind.i64 v3 v5.toNat 0) fun n13 => bindR (call 27 [AV.d (D.int IntKind.i64 n13)]) fun r14 => bindS (resS 1 false 1 r14 0 0) fun s15 => ite' (fits (v7.length + [[D.str s15]].length)) (F9.L7 k call k3 (n) (v0) (v1) (v2) (v3) (v4) (IntKind.i64.wrap (v5 + (1 : Int))) (v6) (v7 ++ [[D.str s15]])) (none)) (none)) (bindR (call 28 [AV.d (D.list 1 v7), AV.d (D.str [(44 : UInt8)])]) fun r13 => bindS (resS 1 false 1 r13 0 0) fun s14 => ite' (fits (1 + s14.length)) (ite' (fits ((([(40 : UInt8)] : List UInt8) ++ s14).length + 1)) (ite' (fits (v6.length + [[D.str (([(40 : UInt8)] : List UInt8) ++ s14 ++ ([(41 : UInt8)] : List UInt8))]].length)) (F9.L3 k call  (k3) (v0) (v1) (IntKind.i64.wrap (v2 + (1 : Int))) (v6 ++ [[D.str (([(40 : UInt8)] : List UInt8) ++ s14 ++ ([(41 : UInt8)] : List UInt8))]])) (none)) (none)) (none)) := by kernel_rfl
theorem F9.eq (k : Nat) (call : CallF) (a0 : Ovi.Rows) : evFnK P hs call (9 : FuncId) k Tryd.f9 [AV.d (D.list 1 a0)] = F9.L3 k call  (k) (a0) ((↑(List.length a0) : Int)) ((0 : Int)) ([]) := by kernel_rfl
theorem F9.run (k : Nat) (a0 : Ovi.Rows) : C (k + 1) 9 [AV.d (D.list 1 a0)] = F9.L3 k (C k)  (k) (a0) ((↑(List.length a0) : Int)) ((0 : Int)) ([]) := (show C (k + 1) 9 [AV.d (D.list 1 a0)] = evFnK P hs (C k) 9 k Tryd.f9 [AV.d (D.list 1 a0)] by kernel_rfl).trans (F9.eq k (C k) a0)
noncomputable def F10.L4 (k : Nat) (call : CallF)  (n : Nat) (v0 : Ovi.Rows) (v1 : Ovi.Rows) (v2 : Int) : Option Res := loopFn P hs call 10 k Tryd.f10 [1, 1, 0, 1, 0] [] n [(0, AV.d (D.list 1 v0)), (1, AV.d (D.list 1 v1)), (5, AV.d (D.int IntKind.i64 v2))] []
theorem F10.L4.zero (k : Nat) (call : CallF)  (v0 : Ovi.Rows) (v1 : Ovi.Rows) (v2 : Int) : F10.L4 k call  0 v0 v1 v2 = none := by kernel_rfl
theorem F10.L4.succ (k : Nat) (call : CallF)  (n : Nat) (v0 : Ovi.Rows) (v1 : Ovi.Rows) (v2 : Int) : F10.L4 k call  (n + 1) v0 v1 v2 = ite' (decide (v2 < (↑(List.length v0) : Int))) (ite' (inR v2 (List.length v0)) (bindL (cellL 1 v0 v2.toNat 0) fun l8 => ite' (inR v2 (List.length v1)) (bindL (cellL 1 v1 v2.toNat 0) fun l9 => bindR (call 29 [AV.d (D.list 1 l8), AV.d (D.list 1 l9)]) fun r10 => bindB (resB 1 false 1 r10 0 0) fun b11 => ite' (!b11) (some ([(false, [RL.d (D.bool false)])])) (F10.L4 k call  (n) (v0) (v1) (IntKind.i64.wrap (v2 + (1 : Int))))) (none)) (none)) (some ([(false, [RL.d (D.bool true)])])) := by kernel_rfl
theorem F10.eq (k : Nat) (call : CallF) (a0 : Ovi.Rows) (a1 : Ovi.Rows) : evFnK P hs call (10 : FuncId) k Tryd.f10 [AV.d (D.list 1 a0), AV.d (D.list 1 a1)] = ite' ((↑(List.length a0) : Int) != (↑(List.length a1) : Int)) (some ([(false, [RL.d (D.bool false)])])) (F10.L4 k call  (k) (a0) (a1) ((0 : Int))) := by kernel_rfl
theorem F10.run (k : Nat) (a0 : Ovi.Rows) (a1 : Ovi.Rows) : C (k + 1) 10 [AV.d (D.list 1 a0), AV.d (D.list 1 a1)] = ite' ((↑(List.length a0) : Int) != (↑(List.length a1) : Int)) (some ([(false, [RL.d (D.bool false)])])) (F10.L4 k (C k)  (k) (a0) (a1) ((0 : Int))) := (show C (k + 1) 10 [AV.d (D.list 1 a0), AV.d (D.list 1 a1)] = evFnK P hs (C k) 10 k Tryd.f10 [AV.d (D.list 1 a0), AV.d (D.list 1 a1)] by kernel_rfl).trans (F10.eq k (C k) a0 a1)
theorem F24.eq (k : Nat) (call : CallF) (a0 : Ovi.Rows) (a1 : Int) : evFnK P hs call (24 : FuncId) k Tryd.f24 [AV.d (D.list 1 a0), AV.d (D.int IntKind.i64 a1)] = ite' (decide (IntKind.i64.wrap (a1 - (↑(List.length a0) : Int)) < (0 : Int))) (some ([(false, [RL.d (D.int IntKind.i64 (-1 : Int))])])) (some ([(false, [RL.d (D.int IntKind.i64 (IntKind.i64.wrap (a1 - (↑(List.length a0) : Int))))])])) := by kernel_rfl
theorem F24.run (k : Nat) (a0 : Ovi.Rows) (a1 : Int) : C (k + 1) 24 [AV.d (D.list 1 a0), AV.d (D.int IntKind.i64 a1)] = ite' (decide (IntKind.i64.wrap (a1 - (↑(List.length a0) : Int)) < (0 : Int))) (some ([(false, [RL.d (D.int IntKind.i64 (-1 : Int))])])) (some ([(false, [RL.d (D.int IntKind.i64 (IntKind.i64.wrap (a1 - (↑(List.length a0) : Int))))])])) := (show C (k + 1) 24 [AV.d (D.list 1 a0), AV.d (D.int IntKind.i64 a1)] = evFnK P hs (C k) 24 k Tryd.f24 [AV.d (D.list 1 a0), AV.d (D.int IntKind.i64 a1)] by kernel_rfl).trans (F24.eq k (C k) a0 a1)
theorem F25.eq (k : Nat) (call : CallF) (a0 : Int) : evFnK P hs call (25 : FuncId) k Tryd.f25 [AV.d (D.int IntKind.i64 a0)] = bindR (call 52 [AV.d (D.int IntKind.i64 a0)]) fun r3 => bindI (resI IntKind.i64 2 false 1 r3 0 0) fun n4 => bindB (resB 2 false 1 r3 1 0) fun b5 => ite' (b5) (bindR (call 53 [AV.d (D.int IntKind.i64 n4)]) fun r6 => bindS (resS 1 false 1 r6 0 0) fun s7 => ite' (fits (1 + s7.length)) (some ([(false, [RL.d (D.str ((110 : UInt8) :: s7))])])) (none)) (bindR (call 54 [AV.d (D.int IntKind.i64 a0), AV.d (D.int IntKind.i64 (0 : Int)), AV.d (D.int IntKind.i64 (9 : Int))]) fun r6 => bindB (resB 1 false 1 r6 0 0) fun b7 => ite' (!b7) (some ([(false, [RL.d (D.str [])])])) (bindR (call 53 [AV.d (D.int IntKind.i64 a0)]) fun r8 => bindS (resS 1 false 1 r8 0 0) fun s9 => some ([(false, [RL.d (D.str s9)])]))) := by kernel_rfl
theorem F25.run (k : Nat) (a0 : Int) : C (k + 1) 25 [AV.d (D.int IntKind.i64 a0)] = bindR ((C k) 52 [AV.d (D.int IntKind.i64 a0)]) fun r3 => bindI (resI IntKind.i64 2 false 1 r3 0 0) fun n4 => bindB (resB 2 false 1 r3 1 0) fun b5 => ite' (b5) (bindR ((C k) 53 [AV.d (D.int IntKind.i64 n4)]) fun r6 => bindS (resS 1 false 1 r6 0 0) fun s7 => ite' (fits (1 + s7.length)) (some ([(false, [RL.d (D.str ((110 : UInt8) :: s7))])])) (none)) (bindR ((C k) 54 [AV.d (D.int IntKind.i64 a0), AV.d (D.int IntKind.i64 (0 : Int)), AV.d (D.int IntKind.i64 (9 : Int))]) fun r6 => bindB (resB 1 false 1 r6 0 0) fun b7 => ite' (!b7) (some ([(false, [RL.d (D.str [])])])) (bindR ((C k) 53 [AV.d (D.int IntKind.i64 a0)]) fun r8 => bindS (resS 1 false 1 r8 0 0) fun s9 => some ([(false, [RL.d (D.str s9)])]))) := (show C (k + 1) 25 [AV.d (D.int IntKind.i64 a0)] = evFnK P hs (C k) 25 k Tryd.f25 [AV.d (D.int IntKind.i64 a0)] by kernel_rfl).trans (F25.eq k (C k) a0)
noncomputable def F26.L3 (k : Nat) (call : CallF)  (n : Nat) (v0 : Ovi.Rows) (v1 : Int) (v2 : Ovi.Rows) : Option Res := loopFn P hs call 26 k Tryd.f26 [1, 1, 0, 1, 0] [] n [(0, AV.d (D.list 1 v0)), (3, AV.own 100003 0), (4, AV.d (D.int IntKind.i64 v1))] [(100003, Blk.arr 3 1 0 v2)]
theorem F26.L3.zero (k : Nat) (call : CallF)  (v0 : Ovi.Rows) (v1 : Int) (v2 : Ovi.Rows) : F26.L3 k call  0 v0 v1 v2 = none := by kernel_rfl
theorem F26.L3.succ (k : Nat) (call : CallF)  (n : Nat) (v0 : Ovi.Rows) (v1 : Int) (v2 : Ovi.Rows) : F26.L3 k call  (n + 1) v0 v1 v2 = ite' (decide (v1 < (↑(List.length v0) : Int))) (ite' (inR v1 (List.length v0)) (bindI (cellI IntKind.i64 v0 v1.toNat 0) fun n7 => ite' (inR v1 (List.length v2)) (F26.L3 k call  (n) (v0) (IntKind.i64.wrap (v1 + (1 : Int))) (rowsSet v2 v1.toNat 0 [D.int IntKind.i64 n7])) (none)) (none)) (some ([(false, [RL.row 3 1 v2])])) := by kernel_rfl
theorem F26.eq (k : Nat) (call : CallF) (a0 : Ovi.Rows) : evFnK P hs call (26 : FuncId) k Tryd.f26 [AV.d (D.list 1 a0)] = ite' ((↑(List.length a0) : Int) == (↑(List.length a0) : Int)) (ite' (inM (↑(List.length a0) : Int)) (F26.L3 k call  (k) (a0) ((0 : Int)) (rowsOf (↑(List.length a0) : Int) [D.int IntKind.i64 (0 : Int)])) (none)) (none) := by kernel_rfl
theorem F26.run (k : Nat) (a0 : Ovi.Rows) : C (k + 1) 26 [AV.d (D.list 1 a0)] = ite' ((↑(List.length a0) : Int) == (↑(List.length a0) : Int)) (ite' (inM (↑(List.length a0) : Int)) (F26.L3 k (C k)  (k) (a0) ((0 : Int)) (rowsOf (↑(List.length a0) : Int) [D.int IntKind.i64 (0 : Int)])) (none)) (none) := (show C (k + 1) 26 [AV.d (D.list 1 a0)] = evFnK P hs (C k) 26 k Tryd.f26 [AV.d (D.list 1 a0)] by kernel_rfl).trans (F26.eq k (C k) a0)
theorem F27.eq (k : Nat) (call : CallF) (a0 : Int) : evFnK P hs call (27 : FuncId) k Tryd.f27 [AV.d (D.int IntKind.i64 a0)] = bindR (call 55 [AV.d (D.int IntKind.i64 a0)]) fun r3 => bindB (resB 1 false 1 r3 0 0) fun b4 => ite' (!b4) (some ([(false, [RL.d (D.str [])])])) (bindR (call 56 [AV.d (D.int IntKind.i64 a0)]) fun r5 => bindB (resB 1 false 1 r5 0 0) fun b6 => ite' (b6) (bindR (call 57 [AV.d (D.int IntKind.i64 (IntKind.i64.wrap ((-1 : Int) - a0)))]) fun r7 => bindS (resS 1 false 1 r7 0 0) fun s8 => ite' (fits (1 + s8.length)) (some ([(false, [RL.d (D.str ((110 : UInt8) :: s8))])])) (none)) (bindR (call 57 [AV.d (D.int IntKind.i64 a0)]) fun r7 => bindS (resS 1 false 1 r7 0 0) fun s8 => some ([(false, [RL.d (D.str s8)])]))) := by kernel_rfl
theorem F27.run (k : Nat) (a0 : Int) : C (k + 1) 27 [AV.d (D.int IntKind.i64 a0)] = bindR ((C k) 55 [AV.d (D.int IntKind.i64 a0)]) fun r3 => bindB (resB 1 false 1 r3 0 0) fun b4 => ite' (!b4) (some ([(false, [RL.d (D.str [])])])) (bindR ((C k) 56 [AV.d (D.int IntKind.i64 a0)]) fun r5 => bindB (resB 1 false 1 r5 0 0) fun b6 => ite' (b6) (bindR ((C k) 57 [AV.d (D.int IntKind.i64 (IntKind.i64.wrap ((-1 : Int) - a0)))]) fun r7 => bindS (resS 1 false 1 r7 0 0) fun s8 => ite' (fits (1 + s8.length)) (some ([(false, [RL.d (D.str ((110 : UInt8) :: s8))])])) (none)) (bindR ((C k) 57 [AV.d (D.int IntKind.i64 a0)]) fun r7 => bindS (resS 1 false 1 r7 0 0) fun s8 => some ([(false, [RL.d (D.str s8)])]))) := (show C (k + 1) 27 [AV.d (D.int IntKind.i64 a0)] = evFnK P hs (C k) 27 k Tryd.f27 [AV.d (D.int IntKind.i64 a0)] by kernel_rfl).trans (F27.eq k (C k) a0)
noncomputable def F29.L4 (k : Nat) (call : CallF)  (n : Nat) (v0 : Ovi.Rows) (v1 : Ovi.Rows) (v2 : Int) : Option Res := loopFn P hs call 29 k Tryd.f29 [1, 1, 0, 1, 0] [] n [(0, AV.d (D.list 1 v0)), (1, AV.d (D.list 1 v1)), (5, AV.d (D.int IntKind.i64 v2))] []
theorem F29.L4.zero (k : Nat) (call : CallF)  (v0 : Ovi.Rows) (v1 : Ovi.Rows) (v2 : Int) : F29.L4 k call  0 v0 v1 v2 = none := by kernel_rfl
theorem F29.L4.succ (k : Nat) (call : CallF)  (n : Nat) (v0 : Ovi.Rows) (v1 : Ovi.Rows) (v2 : Int) : F29.L4 k call  (n + 1) v0 v1 v2 = ite' (decide (v2 < (↑(List.length v0) : Int))) (ite' (inR v2 (List.length v0)) (bindI (cellI IntKind.i64 v0 v2.toNat 0) fun n8 => ite' (inR v2 (List.length v1)) (bindI (cellI IntKind.i64 v1 v2.toNat 0) fun n9 => ite' (n8 != n9) (some ([(false, [RL.d (D.bool false)])])) (F29.L4 k call  (n) (v0) (v1) (IntKind.i64.wrap (v2 + (1 : Int))))) (none)) (none)) (some ([(false, [RL.d (D.bool true)])])) := by kernel_rfl
theorem F29.eq (k : Nat) (call : CallF) (a0 : Ovi.Rows) (a1 : Ovi.Rows) : evFnK P hs call (29 : FuncId) k Tryd.f29 [AV.d (D.list 1 a0), AV.d (D.list 1 a1)] = ite' ((↑(List.length a0) : Int) != (↑(List.length a1) : Int)) (some ([(false, [RL.d (D.bool false)])])) (F29.L4 k call  (k) (a0) (a1) ((0 : Int))) := by kernel_rfl
theorem F29.run (k : Nat) (a0 : Ovi.Rows) (a1 : Ovi.Rows) : C (k + 1) 29 [AV.d (D.list 1 a0), AV.d (D.list 1 a1)] = ite' ((↑(List.length a0) : Int) != (↑(List.length a1) : Int)) (some ([(false, [RL.d (D.bool false)])])) (F29.L4 k (C k)  (k) (a0) (a1) ((0 : Int))) := (show C (k + 1) 29 [AV.d (D.list 1 a0), AV.d (D.list 1 a1)] = evFnK P hs (C k) 29 k Tryd.f29 [AV.d (D.list 1 a0), AV.d (D.list 1 a1)] by kernel_rfl).trans (F29.eq k (C k) a0 a1)
theorem F52.eq (k : Nat) (call : CallF) (a0 : Int) : evFnK P hs call (52 : FuncId) k Tryd.f52 [AV.d (D.int IntKind.i64 a0)] = ite' (decide (a0 ≥ (0 : Int))) (some ([(false, [RL.d (D.int IntKind.i64 (0 : Int))]), (false, [RL.d (D.bool false)])])) (bindR (call 54 [AV.d (D.int IntKind.i64 (IntKind.i64.wrap ((-1 : Int) - a0))), AV.d (D.int IntKind.i64 (0 : Int)), AV.d (D.int IntKind.i64 (39 : Int))]) fun r3 => bindB (resB 1 false 1 r3 0 0) fun b4 => ite' (!b4) (some ([(false, [RL.d (D.int IntKind.i64 (0 : Int))]), (false, [RL.d (D.bool false)])])) (some ([(false, [RL.d (D.int IntKind.i64 (IntKind.i64.wrap ((-1 : Int) - a0)))]), (false, [RL.d (D.bool true)])]))) := by kernel_rfl
theorem F52.run (k : Nat) (a0 : Int) : C (k + 1) 52 [AV.d (D.int IntKind.i64 a0)] = ite' (decide (a0 ≥ (0 : Int))) (some ([(false, [RL.d (D.int IntKind.i64 (0 : Int))]), (false, [RL.d (D.bool false)])])) (bindR ((C k) 54 [AV.d (D.int IntKind.i64 (IntKind.i64.wrap ((-1 : Int) - a0))), AV.d (D.int IntKind.i64 (0 : Int)), AV.d (D.int IntKind.i64 (39 : Int))]) fun r3 => bindB (resB 1 false 1 r3 0 0) fun b4 => ite' (!b4) (some ([(false, [RL.d (D.int IntKind.i64 (0 : Int))]), (false, [RL.d (D.bool false)])])) (some ([(false, [RL.d (D.int IntKind.i64 (IntKind.i64.wrap ((-1 : Int) - a0)))]), (false, [RL.d (D.bool true)])]))) := (show C (k + 1) 52 [AV.d (D.int IntKind.i64 a0)] = evFnK P hs (C k) 52 k Tryd.f52 [AV.d (D.int IntKind.i64 a0)] by kernel_rfl).trans (F52.eq k (C k) a0)
noncomputable def F53.L5 (k : Nat) (call : CallF)  (n : Nat) (v0 : Int) (v1 : List UInt8) (v2 : Bool) : Option Res := loopFn P hs call 53 k Tryd.f53 [1, 1, 1, 1, 0, 0] [] n [(0, AV.d (D.int IntKind.i64 v0)), (3, AV.d (D.str v1)), (4, AV.d (D.bool v2))] []
theorem F53.L5.zero (k : Nat) (call : CallF)  (v0 : Int) (v1 : List UInt8) (v2 : Bool) : F53.L5 k call  0 v0 v1 v2 = none := by kernel_rfl
theorem F53.L5.succ (k : Nat) (call : CallF)  (n : Nat) (v0 : Int) (v1 : List UInt8) (v2 : Bool) : F53.L5 k call  (n + 1) v0 v1 v2 = ite' (v0 != (0 : Int)) (ite' (decide (v0.tmod (10 : Int) < (0 : Int))) (bindS (bytesD [[D.int IntKind.u8 (IntKind.u8.wrap (IntKind.i64.wrap ((48 : Int) + IntKind.i64.wrap ((0 : Int) - v0.tmod (10 : Int)))))]]) fun s7 => ite' (fits (s7.length + v1.length)) (F53.L5 k call  (n) (IntKind.i64.wrap (v0.tdiv (10 : Int))) (s7 ++ v1) (v2)) (none)) (bindS (bytesD [[D.int IntKind.u8 (IntKind.u8.wrap (IntKind.i64.wrap ((48 : Int) + v0.tmod (10 : Int))))]]) fun s7 => ite' (fits (s7.length + v1.length)) (F53.L5 k call  (n) (IntKind.i64.wrap (v0.tdiv (10 : Int))) (s7 ++ v1) (v2)) (none))) (ite' (v2) (ite' (fits (1 + v1.length)) (some ([(false, [RL.d (D.str ((45 : UInt8) :: v1))])])) (none)) (some ([(false, [RL.d (D.str v1)])]))) := by kernel_rfl
theorem F53.eq (k : Nat) (call : CallF) (a0 : Int) : evFnK P hs call (53 : FuncId) k Tryd.f53 [AV.d (D.int IntKind.i64 a0)] = ite' (a0 == (0 : Int)) (some ([(false, [RL.d (D.str [(48 : UInt8)])])])) (F53.L5 k call  (k) (a0) ([]) (decide (a0 < (0 : Int)))) := by kernel_rfl
theorem F53.run (k : Nat) (a0 : Int) : C (k + 1) 53 [AV.d (D.int IntKind.i64 a0)] = ite' (a0 == (0 : Int)) (some ([(false, [RL.d (D.str [(48 : UInt8)])])])) (F53.L5 k (C k)  (k) (a0) ([]) (decide (a0 < (0 : Int)))) := (show C (k + 1) 53 [AV.d (D.int IntKind.i64 a0)] = evFnK P hs (C k) 53 k Tryd.f53 [AV.d (D.int IntKind.i64 a0)] by kernel_rfl).trans (F53.eq k (C k) a0)
theorem F54.eq (k : Nat) (call : CallF) (a0 : Int) (a1 : Int) (a2 : Int) : evFnK P hs call (54 : FuncId) k Tryd.f54 [AV.d (D.int IntKind.i64 a0), AV.d (D.int IntKind.i64 a1), AV.d (D.int IntKind.i64 a2)] = ite' (decide (a0 ≥ a1)) (some ([(false, [RL.d (D.bool (decide (a0 ≤ a2)))])])) (some ([(false, [RL.d (D.bool false)])])) := by kernel_rfl
theorem F54.run (k : Nat) (a0 : Int) (a1 : Int) (a2 : Int) : C (k + 1) 54 [AV.d (D.int IntKind.i64 a0), AV.d (D.int IntKind.i64 a1), AV.d (D.int IntKind.i64 a2)] = ite' (decide (a0 ≥ a1)) (some ([(false, [RL.d (D.bool (decide (a0 ≤ a2)))])])) (some ([(false, [RL.d (D.bool false)])])) := (show C (k + 1) 54 [AV.d (D.int IntKind.i64 a0), AV.d (D.int IntKind.i64 a1), AV.d (D.int IntKind.i64 a2)] = evFnK P hs (C k) 54 k Tryd.f54 [AV.d (D.int IntKind.i64 a0), AV.d (D.int IntKind.i64 a1), AV.d (D.int IntKind.i64 a2)] by kernel_rfl).trans (F54.eq k (C k) a0 a1 a2)
theorem F55.eq (k : Nat) (call : CallF) (a0 : Int) : evFnK P hs call (55 : FuncId) k Tryd.f55 [AV.d (D.int IntKind.i64 a0)] = bindR (call 78 [AV.d (D.int IntKind.i64 a0), AV.d (D.int IntKind.i64 (-40 : Int)), AV.d (D.int IntKind.i64 (9 : Int))]) fun r3 => bindB (resB 1 false 1 r3 0 0) fun b4 => some ([(false, [RL.d (D.bool b4)])]) := by kernel_rfl
theorem F55.run (k : Nat) (a0 : Int) : C (k + 1) 55 [AV.d (D.int IntKind.i64 a0)] = bindR ((C k) 78 [AV.d (D.int IntKind.i64 a0), AV.d (D.int IntKind.i64 (-40 : Int)), AV.d (D.int IntKind.i64 (9 : Int))]) fun r3 => bindB (resB 1 false 1 r3 0 0) fun b4 => some ([(false, [RL.d (D.bool b4)])]) := (show C (k + 1) 55 [AV.d (D.int IntKind.i64 a0)] = evFnK P hs (C k) 55 k Tryd.f55 [AV.d (D.int IntKind.i64 a0)] by kernel_rfl).trans (F55.eq k (C k) a0)
theorem F56.eq (k : Nat) (call : CallF) (a0 : Int) : evFnK P hs call (56 : FuncId) k Tryd.f56 [AV.d (D.int IntKind.i64 a0)] = some ([(false, [RL.d (D.bool (decide (a0 < (0 : Int))))])]) := by kernel_rfl
theorem F56.run (k : Nat) (a0 : Int) : C (k + 1) 56 [AV.d (D.int IntKind.i64 a0)] = some ([(false, [RL.d (D.bool (decide (a0 < (0 : Int))))])]) := (show C (k + 1) 56 [AV.d (D.int IntKind.i64 a0)] = evFnK P hs (C k) 56 k Tryd.f56 [AV.d (D.int IntKind.i64 a0)] by kernel_rfl).trans (F56.eq k (C k) a0)
theorem F57.eq (k : Nat) (call : CallF) (a0 : Int) : evFnK P hs call (57 : FuncId) k Tryd.f57 [AV.d (D.int IntKind.i64 a0)] = bindR (call 81 [AV.d (D.int IntKind.i64 a0)]) fun r3 => bindS (resS 1 false 1 r3 0 0) fun s4 => some ([(false, [RL.d (D.str s4)])]) := by kernel_rfl
theorem F57.run (k : Nat) (a0 : Int) : C (k + 1) 57 [AV.d (D.int IntKind.i64 a0)] = bindR ((C k) 81 [AV.d (D.int IntKind.i64 a0)]) fun r3 => bindS (resS 1 false 1 r3 0 0) fun s4 => some ([(false, [RL.d (D.str s4)])]) := (show C (k + 1) 57 [AV.d (D.int IntKind.i64 a0)] = evFnK P hs (C k) 57 k Tryd.f57 [AV.d (D.int IntKind.i64 a0)] by kernel_rfl).trans (F57.eq k (C k) a0)
theorem F78.eq (k : Nat) (call : CallF) (a0 : Int) (a1 : Int) (a2 : Int) : evFnK P hs call (78 : FuncId) k Tryd.f78 [AV.d (D.int IntKind.i64 a0), AV.d (D.int IntKind.i64 a1), AV.d (D.int IntKind.i64 a2)] = ite' (decide (a1 ≤ a0)) (some ([(false, [RL.d (D.bool (decide (a0 ≤ a2)))])])) (some ([(false, [RL.d (D.bool false)])])) := by kernel_rfl
theorem F78.run (k : Nat) (a0 : Int) (a1 : Int) (a2 : Int) : C (k + 1) 78 [AV.d (D.int IntKind.i64 a0), AV.d (D.int IntKind.i64 a1), AV.d (D.int IntKind.i64 a2)] = ite' (decide (a1 ≤ a0)) (some ([(false, [RL.d (D.bool (decide (a0 ≤ a2)))])])) (some ([(false, [RL.d (D.bool false)])])) := (show C (k + 1) 78 [AV.d (D.int IntKind.i64 a0), AV.d (D.int IntKind.i64 a1), AV.d (D.int IntKind.i64 a2)] = evFnK P hs (C k) 78 k Tryd.f78 [AV.d (D.int IntKind.i64 a0), AV.d (D.int IntKind.i64 a1), AV.d (D.int IntKind.i64 a2)] by kernel_rfl).trans (F78.eq k (C k) a0 a1 a2)

end Go.Proofs.YtekcjghbfbfmpaaDoor.Q

/-! ShelfD -/
/-
  DERIVED: THE SHELF's CONTRACTS AT THIS DUMP, IN PLAIN WORDS (tools/lay-plain.mjs out of 'TrydShelf.lean', which tools/lay-shelf.mjs wrote): THE SAME DECLARATIONS UNDER THE SAME NAMES: 'import', 'namespace', 'open', 'def', 'theorem' AND NOTHING ELSE: no command of the shelf's: FOR A HAND-IN. Each laying: the table of numbers ('.._ren') and one theorem, a field a fact of the dump's own or the kernel's comparison; each contract: ONE APPLICATION.
-/
namespace Go.Proofs
open Go.Shelf
def Tryd.lays156_ren : Go.Shelf.Ren := ⟨fun | 156 => 28 | 165 => 58 | 166 => 59 | 169 => 60 | 240 => 82 | 241 => 83 | 276 => 97 | 277 => 98 | n => n, fun | 31 => 65 | 9 => 9 | 3 => 3 | 4 => 4 | 0 => 0 | 20 => 20 | 72 => 95 | 76 => 99 | 70 => 92 | 37 => 93 | 75 => 98 | 127 => 121 | 164 => 134 | 5 => 5 | 80 => 101 | n => n, fun | n => n⟩
theorem Tryd.lays156 : Go.Proofs.Lays.n156 Tryd.prog Tryd.lays156_ren := {
  mixed := by kernel_rfl
  f156 := Tryd.func28.trans (congrArg some (by kernel_rfl))
  f165 := Tryd.func58.trans (congrArg some (by kernel_rfl))
  f166 := Tryd.func59.trans (congrArg some (by kernel_rfl))
  f169 := Tryd.func60.trans (congrArg some (by kernel_rfl))
  f240 := Tryd.func82.trans (congrArg some (by kernel_rfl))
  f241 := Tryd.func83.trans (congrArg some (by kernel_rfl))
  f276 := Tryd.func97.trans (congrArg some (by kernel_rfl))
  f277 := Tryd.func98.trans (congrArg some (by kernel_rfl))
  t0 := Tryd.underlying0
  a0 := Tryd.isAgg0
  z0 := Tryd.sizeOf0
  v0 := Tryd.zeroValue0
  t3 := Tryd.underlying3
  a3 := Tryd.isAgg3
  z3 := Tryd.sizeOf3
  v3 := Tryd.zeroValue3
  t4 := Tryd.underlying4
  a4 := Tryd.isAgg4
  z4 := Tryd.sizeOf4
  v4 := Tryd.zeroValue4
  t9 := Tryd.underlying9
  a9 := Tryd.isAgg9
  z9 := Tryd.sizeOf9
  v9 := Tryd.zeroValue9
  t20 := Tryd.underlying20
  a20 := Tryd.isAgg20
  z20 := Tryd.sizeOf20
  v20 := Tryd.zeroValue20
  t31 := Tryd.underlying65
  a31 := Tryd.isAgg65
  z31 := Tryd.sizeOf65
  v31 := Tryd.zeroValue65
  t37 := Tryd.underlying93
  a37 := Tryd.isAgg93
  z37 := Tryd.sizeOf93
  v37 := Tryd.zeroValue93
  t70 := Tryd.underlying92
  a70 := Tryd.isAgg92
  z70 := Tryd.sizeOf92
  v70 := Tryd.zeroValue92
  t72 := Tryd.underlying95
  a72 := Tryd.isAgg95
  z72 := Tryd.sizeOf95
  v72 := Tryd.zeroValue95
  t75 := Tryd.underlying98
  a75 := Tryd.isAgg98
  z75 := Tryd.sizeOf98
  v75 := Tryd.zeroValue98
  t76 := Tryd.underlying99
  a76 := Tryd.isAgg99
  z76 := Tryd.sizeOf99
  v76 := Tryd.zeroValue99
  t127 := Tryd.underlying121
  a127 := Tryd.isAgg121
  z127 := Tryd.sizeOf121
  v127 := Tryd.zeroValue121
  t164 := Tryd.underlying134
  a164 := Tryd.isAgg134
  z164 := Tryd.sizeOf134
  v164 := Tryd.zeroValue134 }
theorem Tryd.Builder_Extra_156 : Builder.Extra Tryd.prog Tryd.lays156_ren := {
  sizeBuilder := by kernel_rfl
  liesBuilder := by kernel_rfl
  t5 := Tryd.underlying5
  a5 := Tryd.isAgg5
  z5 := Tryd.sizeOf5
  v5 := Tryd.zeroValue5
  infoByte := by kernel_rfl
  cellsByte := by kernel_rfl
  sizeByte := by kernel_rfl
  neB5 := by decide }
open Go.RowKit in
/-- No element: the empty string; the world is as it was. (Whatever the slice's address and capacity: a nil slice too.) (LAID: no walk: one application.) -/
theorem Tryd.strings_Join_none (a : Option Addr) (c : Nat) (sep : ByteArray) (w : World) :
    Calls Tryd.prog 28 #[.slice a 0 c, .string sep] w fun e w' => e = .returned (.string ⟨#[]⟩) ∧ w' = w := Any.strings_Join_none Tryd.lays156 Tryd.Builder_Extra_156 a c sep w
open Go.RowKit in
/-- strings.Join: "Join concatenates the elements of its first argument to create a single string. The separator string sep is placed between elements in the resulting string.": HOWEVER MANY ELEMENTS. Below the heap's end the world is as it was. (LAID: no walk: one application.) -/
theorem Tryd.strings_Join (bk o c : Nat) (xs : List ByteArray) (sep : ByteArray) (w : World) (hcells : ∀ (j : Nat) x, xs[j]? = some x → w.cell? ⟨bk, o + j, none⟩ = some (.string x)) (hbk : bk < w.heap.size) (hN : xs.length ≤ 140737488355328) (hcap : xs.length ≤ c) (hlen : (Lib.join (xs.map (·.data.toList)) sep.data.toList).length ≤ 140737488355328) :
    Calls Tryd.prog 28 #[.slice (some ⟨bk, o, none⟩) xs.length c, .string sep] w fun e w' => e = .returned (.string ⟨(Lib.join (xs.map (·.data.toList)) sep.data.toList).toArray⟩) ∧ Below w.heap.size w w' := Any.strings_Join Tryd.lays156 Tryd.Builder_Extra_156 bk o c xs sep w hcells hbk hN hcap hlen
def Tryd.laysM171_ren : Go.Shelf.Ren := ⟨fun | 171 => 81 | 243 => 96 | 246 => 105 | 283 => 118 | 284 => 119 | 285 => 120 | 286 => 121 | 129 => 116 | 317 => 128 | 318 => 129 | 319 => 130 | 320 => 131 | 337 => 133 | 338 => 134 | n => n, fun | 3 => 3 | 9 => 9 | 2 => 2 | 4 => 4 | 171 => 155 | 0 => 0 | 53 => 154 | 37 => 93 | 5 => 5 | 173 => 157 | 212 => 167 | 51 => 152 | 20 => 20 | 213 => 168 | 46 => 140 | 232 => 172 | 233 => 173 | n => n, fun | 17 => 1 | 18 => 2 | 19 => 3 | n => n⟩
theorem Tryd.laysM171 : Go.Proofs.LaysM.n171 Tryd.prog Tryd.laysM171_ren := {
  mixed := by kernel_rfl
  f129 := Tryd.func116.trans (congrArg some (by kernel_rfl))
  f171 := Tryd.func81.trans (congrArg some (by kernel_rfl))
  f243 := Tryd.func96.trans (congrArg some (by kernel_rfl))
  f246 := Tryd.func105.trans (congrArg some (by kernel_rfl))
  f283 := Tryd.func118.trans (congrArg some (by kernel_rfl))
  f284 := Tryd.func119.trans (congrArg some (by kernel_rfl))
  f285 := Tryd.func120.trans (congrArg some (by kernel_rfl))
  f286 := Tryd.func121.trans (congrArg some (by kernel_rfl))
  f317 := Tryd.func128.trans (congrArg some (by kernel_rfl))
  f318 := Tryd.func129.trans (congrArg some (by kernel_rfl))
  f319 := Tryd.func130.trans (congrArg some (by kernel_rfl))
  f320 := Tryd.func131.trans (congrArg some (by kernel_rfl))
  f337 := Tryd.func133.trans (congrArg some (by kernel_rfl))
  f338 := Tryd.func134.trans (congrArg some (by kernel_rfl))
  t0 := Tryd.underlying0
  a0 := Tryd.isAgg0
  z0 := Tryd.sizeOf0
  v0 := Tryd.zeroValue0
  t2 := Tryd.underlying2
  a2 := Tryd.isAgg2
  z2 := Tryd.sizeOf2
  v2 := Tryd.zeroValue2
  t3 := Tryd.underlying3
  a3 := Tryd.isAgg3
  z3 := Tryd.sizeOf3
  v3 := Tryd.zeroValue3
  t4 := Tryd.underlying4
  a4 := Tryd.isAgg4
  z4 := Tryd.sizeOf4
  v4 := Tryd.zeroValue4
  t5 := Tryd.underlying5
  a5 := Tryd.isAgg5
  z5 := Tryd.sizeOf5
  v5 := Tryd.zeroValue5
  t9 := Tryd.underlying9
  a9 := Tryd.isAgg9
  z9 := Tryd.sizeOf9
  v9 := Tryd.zeroValue9
  t20 := Tryd.underlying20
  a20 := Tryd.isAgg20
  z20 := Tryd.sizeOf20
  v20 := Tryd.zeroValue20
  t37 := Tryd.underlying93
  a37 := Tryd.isAgg93
  z37 := Tryd.sizeOf93
  v37 := Tryd.zeroValue93
  t46 := Tryd.underlying140
  a46 := Tryd.isAgg140
  z46 := Tryd.sizeOf140
  v46 := Tryd.zeroValue140
  t51 := Tryd.underlying152
  a51 := Tryd.isAgg152
  z51 := Tryd.sizeOf152
  v51 := Tryd.zeroValue152
  t53 := Tryd.underlying154
  a53 := Tryd.isAgg154
  z53 := Tryd.sizeOf154
  v53 := Tryd.zeroValue154
  t171 := Tryd.underlying155
  a171 := Tryd.isAgg155
  z171 := Tryd.sizeOf155
  v171 := Tryd.zeroValue155
  t173 := Tryd.underlying157
  a173 := Tryd.isAgg157
  z173 := Tryd.sizeOf157
  v173 := Tryd.zeroValue157
  t212 := Tryd.underlying167
  a212 := Tryd.isAgg167
  z212 := Tryd.sizeOf167
  v212 := Tryd.zeroValue167
  t213 := Tryd.underlying168
  a213 := Tryd.isAgg168
  z213 := Tryd.sizeOf168
  t232 := Tryd.underlying172
  a232 := Tryd.isAgg172
  z232 := Tryd.sizeOf172
  v232 := Tryd.zeroValue172
  t233 := Tryd.underlying173
  a233 := Tryd.isAgg173
  z233 := Tryd.sizeOf173
  v233 := Tryd.zeroValue173
  g17 := by kernel_rfl
  g18 := by kernel_rfl
  g19 := by kernel_rfl
  i0 := by kernel_rfl
  i2 := by kernel_rfl
  i3 := by kernel_rfl
  i4 := by kernel_rfl
  i5 := by kernel_rfl
  i9 := by kernel_rfl
  i20 := by kernel_rfl
  i37 := by kernel_rfl
  i46 := by kernel_rfl
  i51 := by kernel_rfl
  i53 := by kernel_rfl
  i171 := by kernel_rfl
  i173 := by kernel_rfl
  i212 := by kernel_rfl
  i232 := by kernel_rfl
  i233 := by kernel_rfl
  m17 := by kernel_rfl
  m18 := by kernel_rfl
  m19 := by kernel_rfl }
open Go.RowKit Go.Sort Go.Lib in
/-- strconv.Itoa: "Itoa is equivalent to FormatInt(int64(i), 10).": i's DECIMAL NUMERAL ('Lib.itoa': a '-' where i is negative, then the digits), FOR EVERY int. The world behind the call: the world before it, new blocks behind the heap (the library's 'var a [24]byte'), draws. (LAID: no walk: one application.) -/
theorem Tryd.strconv_Itoa (n : Int) (h0 : -9223372036854775808 ≤ n) (h1 : n ≤ 9223372036854775807) (w : World) (htab : Lib.TabIs Tryd.prog w "internal/strconv.uint64pow10" .u64 Lib.pow10Tab) :
    Calls Tryd.prog 81 #[.int .i64 n] w fun e w' => e = .returned (.string ⟨(Lib.itoa n).toArray⟩) ∧ ∃ k os, w' = grow (w.drewN k) os := Any.strconv_Itoa Tryd.laysM171 n h0 h1 w htab
def Tryd.lays171_ren : Go.Shelf.Ren := ⟨fun | 171 => 81 | 243 => 96 | 246 => 105 | 283 => 118 | 284 => 119 | 285 => 120 | 286 => 121 | 129 => 116 | 317 => 128 | 318 => 129 | 319 => 130 | 320 => 131 | 337 => 133 | 338 => 134 | n => n, fun | 3 => 3 | 9 => 9 | 2 => 2 | 4 => 4 | 171 => 155 | 0 => 0 | 53 => 154 | 37 => 93 | 5 => 5 | 173 => 157 | 212 => 167 | 51 => 152 | 20 => 20 | 213 => 168 | 46 => 140 | 232 => 172 | 233 => 173 | n => n, fun | 17 => 1 | 18 => 2 | 19 => 3 | n => n⟩
theorem Tryd.lays171 : Go.Proofs.Lays.n171 Tryd.prog Tryd.lays171_ren := {
  mixed := by kernel_rfl
  f129 := Tryd.func116.trans (congrArg some (by kernel_rfl))
  f171 := Tryd.func81.trans (congrArg some (by kernel_rfl))
  f243 := Tryd.func96.trans (congrArg some (by kernel_rfl))
  f246 := Tryd.func105.trans (congrArg some (by kernel_rfl))
  f283 := Tryd.func118.trans (congrArg some (by kernel_rfl))
  f284 := Tryd.func119.trans (congrArg some (by kernel_rfl))
  f285 := Tryd.func120.trans (congrArg some (by kernel_rfl))
  f286 := Tryd.func121.trans (congrArg some (by kernel_rfl))
  f317 := Tryd.func128.trans (congrArg some (by kernel_rfl))
  f318 := Tryd.func129.trans (congrArg some (by kernel_rfl))
  f319 := Tryd.func130.trans (congrArg some (by kernel_rfl))
  f320 := Tryd.func131.trans (congrArg some (by kernel_rfl))
  f337 := Tryd.func133.trans (congrArg some (by kernel_rfl))
  f338 := Tryd.func134.trans (congrArg some (by kernel_rfl))
  t0 := Tryd.underlying0
  a0 := Tryd.isAgg0
  z0 := Tryd.sizeOf0
  v0 := Tryd.zeroValue0
  t2 := Tryd.underlying2
  a2 := Tryd.isAgg2
  z2 := Tryd.sizeOf2
  v2 := Tryd.zeroValue2
  t3 := Tryd.underlying3
  a3 := Tryd.isAgg3
  z3 := Tryd.sizeOf3
  v3 := Tryd.zeroValue3
  t4 := Tryd.underlying4
  a4 := Tryd.isAgg4
  z4 := Tryd.sizeOf4
  v4 := Tryd.zeroValue4
  t5 := Tryd.underlying5
  a5 := Tryd.isAgg5
  z5 := Tryd.sizeOf5
  v5 := Tryd.zeroValue5
  t9 := Tryd.underlying9
  a9 := Tryd.isAgg9
  z9 := Tryd.sizeOf9
  v9 := Tryd.zeroValue9
  t20 := Tryd.underlying20
  a20 := Tryd.isAgg20
  z20 := Tryd.sizeOf20
  v20 := Tryd.zeroValue20
  t37 := Tryd.underlying93
  a37 := Tryd.isAgg93
  z37 := Tryd.sizeOf93
  v37 := Tryd.zeroValue93
  t46 := Tryd.underlying140
  a46 := Tryd.isAgg140
  z46 := Tryd.sizeOf140
  v46 := Tryd.zeroValue140
  t51 := Tryd.underlying152
  a51 := Tryd.isAgg152
  z51 := Tryd.sizeOf152
  v51 := Tryd.zeroValue152
  t53 := Tryd.underlying154
  a53 := Tryd.isAgg154
  z53 := Tryd.sizeOf154
  v53 := Tryd.zeroValue154
  t171 := Tryd.underlying155
  a171 := Tryd.isAgg155
  z171 := Tryd.sizeOf155
  v171 := Tryd.zeroValue155
  t173 := Tryd.underlying157
  a173 := Tryd.isAgg157
  z173 := Tryd.sizeOf157
  v173 := Tryd.zeroValue157
  t212 := Tryd.underlying167
  a212 := Tryd.isAgg167
  z212 := Tryd.sizeOf167
  v212 := Tryd.zeroValue167
  t213 := Tryd.underlying168
  a213 := Tryd.isAgg168
  z213 := Tryd.sizeOf168
  t232 := Tryd.underlying172
  a232 := Tryd.isAgg172
  z232 := Tryd.sizeOf172
  v232 := Tryd.zeroValue172
  t233 := Tryd.underlying173
  a233 := Tryd.isAgg173
  z233 := Tryd.sizeOf173
  v233 := Tryd.zeroValue173
  g17 := by kernel_rfl
  g18 := by kernel_rfl
  g19 := by kernel_rfl }
open Go.RowKit Go.Sort Go.Lib in
/-- THE ROAD WITHOUT THE TABLE: 0 <= i < 100: NO PREMISE ON THE WORLD, AND THE WORLD IS AS IT WAS: a row that keeps its argument in that range need list no table ('laid = []'). (LAID: no walk: one application.) -/
theorem Tryd.strconv_Itoa_small (i : Nat) (hi : i < 100) (w : World) :
    Calls Tryd.prog 81 #[.int .i64 i] w fun e w' => e = .returned (.string ⟨(Lib.decDigits i).toArray⟩) ∧ w' = w := Any.strconv_Itoa_small Tryd.lays171 i hi w
def Tryd.lays189_ren : Go.Shelf.Ren := ⟨fun | 189 => 89 | 125 => 101 | 257 => 100 | 128 => 115 | 129 => 116 | 294 => 106 | 295 => 107 | 296 => 108 | 297 => 109 | 298 => 110 | 299 => 111 | 216 => 112 | 300 => 113 | 301 => 114 | 328 => 122 | 329 => 123 | 330 => 124 | 331 => 125 | 332 => 126 | 215 => 127 | 343 => 132 | n => n, fun | 28 => 47 | 3 => 3 | 46 => 140 | 0 => 0 | 51 => 152 | 53 => 154 | 4 => 4 | 183 => 145 | 182 => 144 | 131 => 88 | 5 => 5 | 9 => 9 | 218 => 159 | 222 => 163 | 228 => 169 | 229 => 170 | n => n, fun | n => n⟩
theorem Tryd.lays189 : Go.Proofs.Lays.n189 Tryd.prog Tryd.lays189_ren := {
  mixed := by kernel_rfl
  f125 := Tryd.func101.trans (congrArg some (by kernel_rfl))
  f128 := Tryd.func115.trans (congrArg some (by kernel_rfl))
  f129 := Tryd.func116.trans (congrArg some (by kernel_rfl))
  f189 := Tryd.func89.trans (congrArg some (by kernel_rfl))
  f215 := Tryd.func127.trans (congrArg some (by kernel_rfl))
  f216 := Tryd.func112.trans (congrArg some (by kernel_rfl))
  f257 := Tryd.func100.trans (congrArg some (by kernel_rfl))
  f294 := Tryd.func106.trans (congrArg some (by kernel_rfl))
  f295 := Tryd.func107.trans (congrArg some (by kernel_rfl))
  f296 := Tryd.func108.trans (congrArg some (by kernel_rfl))
  f297 := Tryd.func109.trans (congrArg some (by kernel_rfl))
  f298 := Tryd.func110.trans (congrArg some (by kernel_rfl))
  f299 := Tryd.func111.trans (congrArg some (by kernel_rfl))
  f300 := Tryd.func113.trans (congrArg some (by kernel_rfl))
  f301 := Tryd.func114.trans (congrArg some (by kernel_rfl))
  f328 := Tryd.func122.trans (congrArg some (by kernel_rfl))
  f329 := Tryd.func123.trans (congrArg some (by kernel_rfl))
  f330 := Tryd.func124.trans (congrArg some (by kernel_rfl))
  f331 := Tryd.func125.trans (congrArg some (by kernel_rfl))
  f332 := Tryd.func126.trans (congrArg some (by kernel_rfl))
  f343 := Tryd.func132.trans (congrArg some (by kernel_rfl))
  t0 := Tryd.underlying0
  a0 := Tryd.isAgg0
  z0 := Tryd.sizeOf0
  v0 := Tryd.zeroValue0
  t3 := Tryd.underlying3
  a3 := Tryd.isAgg3
  z3 := Tryd.sizeOf3
  v3 := Tryd.zeroValue3
  t4 := Tryd.underlying4
  a4 := Tryd.isAgg4
  z4 := Tryd.sizeOf4
  v4 := Tryd.zeroValue4
  t5 := Tryd.underlying5
  a5 := Tryd.isAgg5
  z5 := Tryd.sizeOf5
  v5 := Tryd.zeroValue5
  t9 := Tryd.underlying9
  a9 := Tryd.isAgg9
  z9 := Tryd.sizeOf9
  v9 := Tryd.zeroValue9
  t28 := Tryd.underlying47
  a28 := Tryd.isAgg47
  z28 := Tryd.sizeOf47
  v28 := Tryd.zeroValue47
  t46 := Tryd.underlying140
  a46 := Tryd.isAgg140
  z46 := Tryd.sizeOf140
  v46 := Tryd.zeroValue140
  t51 := Tryd.underlying152
  a51 := Tryd.isAgg152
  z51 := Tryd.sizeOf152
  v51 := Tryd.zeroValue152
  t53 := Tryd.underlying154
  a53 := Tryd.isAgg154
  z53 := Tryd.sizeOf154
  v53 := Tryd.zeroValue154
  t131 := Tryd.underlying88
  a131 := Tryd.isAgg88
  z131 := Tryd.sizeOf88
  v131 := Tryd.zeroValue88
  t182 := Tryd.underlying144
  a182 := Tryd.isAgg144
  z182 := Tryd.sizeOf144
  v182 := Tryd.zeroValue144
  t183 := Tryd.underlying145
  a183 := Tryd.isAgg145
  z183 := Tryd.sizeOf145
  v183 := Tryd.zeroValue145
  t218 := Tryd.underlying159
  a218 := Tryd.isAgg159
  z218 := Tryd.sizeOf159
  v218 := Tryd.zeroValue159
  t222 := Tryd.underlying163
  a222 := Tryd.isAgg163
  z222 := Tryd.sizeOf163
  v222 := Tryd.zeroValue163
  t228 := Tryd.underlying169
  a228 := Tryd.isAgg169
  z228 := Tryd.sizeOf169
  v228 := Tryd.zeroValue169
  t229 := Tryd.underlying170
  a229 := Tryd.isAgg170
  z229 := Tryd.sizeOf170
  v229 := Tryd.zeroValue170 }
open Go.Sort Go.RowKit in
theorem Tryd.slices_Sort_int (blk off cap : Nat) (zs : List Int) (w : World) (hH : Holds (Value.int .i64) w blk off zs.toArray) (hblk : blk < w.heap.size) (hsz : zs.length < 4611686018427387904) :
    Calls Tryd.prog 89 #[.slice (some ⟨blk, off, none⟩) zs.length cap] w fun e w' =>
      e = .returned (.tuple #[]) ∧ ∃ n os, w' = grow (putRow (Value.int .i64) (Sort.ahead w n) blk off (zs.mergeSort fun x y => decide (x ≤ y)).toArray) os := Any.slices_Sort_int Tryd.lays189 blk off cap zs w hH hblk hsz
def Tryd.laysNm220_ren : Go.Shelf.Ren := ⟨fun | 20 => 90 | n => n, fun | 22 => 47 | 3 => 3 | 4 => 4 | 0 => 0 | n => n, fun | n => n⟩
theorem Tryd.laysNm220 : Go.Proofs.Lays2.n20 Tryd.prog Tryd.laysNm220_ren := {
  mixed := by kernel_rfl
  f20 := Tryd.func90.trans (congrArg some (by kernel_rfl))
  t0 := Tryd.underlying0
  a0 := Tryd.isAgg0
  z0 := Tryd.sizeOf0
  v0 := Tryd.zeroValue0
  t3 := Tryd.underlying3
  a3 := Tryd.isAgg3
  z3 := Tryd.sizeOf3
  v3 := Tryd.zeroValue3
  t4 := Tryd.underlying4
  a4 := Tryd.isAgg4
  z4 := Tryd.sizeOf4
  v4 := Tryd.zeroValue4
  t22 := Tryd.underlying47
  a22 := Tryd.isAgg47
  z22 := Tryd.sizeOf47
  v22 := Tryd.zeroValue47
  i3 := by kernel_rfl }
open Go.RowKit Go.Lib Go.Sort in
/-- slices.Compact at []int, over an array: the library's two loops are walked. (LAID: no walk: one application.) -/
theorem Tryd.slices_Compact_int_arr (blk off cap : Nat) (d : Array Int) (w : World) (hH : Holds encI w blk off d) (hsz : d.size ≤ 9223372036854775807) (hcap : d.size ≤ cap) :
    Calls Tryd.prog 90 #[.slice (some ⟨blk, off, none⟩) d.size cap] w fun e w' => e = .returned (.slice (some ⟨blk, off, none⟩) (compactUpTo d d.size).length cap) ∧ ∃ q, w' = putRow encI (Sort.ahead w q) blk off (compactUpTo d d.size ++ List.replicate (d.size - (compactUpTo d d.size).length) 0).toArray := Any.slices_Compact_int_arr Tryd.laysNm220 blk off cap d w hH hsz hcap
open Go.RowKit Go.Lib Go.Sort in
/-- slices.Compact at []int: "Compact replaces consecutive runs of equal elements with a single copy. This is like the uniq command found on Unix. Compact modifies the contents of the slice s and returns the modified slice, which may have a smaller length. Compact zeroes the elements between the new length and the original length. The result preserves the nilness of s.": IT RETURNS THE SLICE CUT TO 'Lib.compact zs'; ITS CELLS HOLD 'Lib.compact zs', THEN ZERO VALUES up to the old length; all else is as it was, but for the count of draws. IN THE WORDS OF slices.Sort's CONTRACT ('Holds', 'putRow'): so the everyday 'slices.Sort(xs); xs = slices.Compact(xs)' goes from the one contract to the other. It asks 'zs.length ≤ cap' (every slice's: the reslicing 's[:k]' looks at it). Length 0, nil: '.._empty'. (LAID: no walk: one application.) -/
theorem Tryd.slices_Compact_int (blk off cap : Nat) (zs : List Int) (w : World) (hH : Holds (Value.int .i64) w blk off zs.toArray) (hsz : zs.length ≤ 9223372036854775807) (hcap : zs.length ≤ cap) :
    Calls Tryd.prog 90 #[.slice (some ⟨blk, off, none⟩) zs.length cap] w fun e w' => e = .returned (.slice (some ⟨blk, off, none⟩) (Lib.compact zs).length cap) ∧ ∃ q, w' = putRow (Value.int .i64) (Sort.ahead w q) blk off (Lib.compact zs ++ List.replicate (zs.length - (Lib.compact zs).length) 0).toArray := Any.slices_Compact_int Tryd.laysNm220 blk off cap zs w hH hsz hcap
open Go.RowKit Go.Lib Go.Sort in
/-- The same at a slice of length 0, a nil one too: it comes back as it is. (LAID: no walk: one application.) -/
theorem Tryd.slices_Compact_int_empty (a : Option Addr) (cap : Nat) (w : World) :
    Calls Tryd.prog 90 #[.slice a 0 cap] w fun e w' => e = .returned (.slice a 0 cap) ∧ w' = w := Any.slices_Compact_int_empty Tryd.laysNm220 a cap w
end Go.Proofs

/-! Sd -/
namespace Go.Proofs.YtekcjghbfbfmpaaDoor.Q
open Go Ovi Go.RowKit
theorem ok : progOk Tryd.prog = true := by kernel_rfl
theorem mixed : Tryd.prog.follows .mixedOrders = true := by kernel_rfl
theorem bare (k : Nat) : Sound Tryd.prog noG (evCall Tryd.prog hs (fun _ => none) k) := evCall_ok (drawSound mixed) (okProg ok) (fun _ _ => rfl) (sound_none _ _) k
theorem sort_nil : evCall Tryd.prog hs (fun _ => none) 8 89 [.d (.list 1 [])] = some [] := by kernel_rfl
theorem sortC : SortC Tryd.prog 89 where
  known := ⟨Tryd.f89, Tryd.func89, rfl, by kernel_rfl⟩
  run := fun blk off cap zs w hH hb hl => Any.slices_Sort_int Tryd.lays189 blk off cap zs w hH hb hl
  nil := fun A w => by
    refine ((bare 8).plain 89 _ _ sort_nil w (fun _ => False) (fun _ => False) #[.slice A 0 0] (fun _ h => h.elim) (fun _ h => h.elim) ⟨rfl, fun j a ha => ?_⟩ trivial).mono fun e w' ⟨v, S', mr, he, hb, _, _, hr⟩ => ?_
    · cases j with
      | zero => cases ha; exact ⟨_, rfl, RD.nil A 1⟩
      | succ j => simp at ha
    · obtain ⟨⟨vs, h1, h2, _⟩, _⟩ := hr
      obtain rfl := List.eq_nil_of_length_eq_zero h2
      exact ⟨by rw [he, h1], hb⟩
theorem compactC : CompactC Tryd.prog 90 where
  known := ⟨Tryd.f90, Tryd.func90, rfl, by kernel_rfl⟩
  run := fun blk off cap zs w hH hb hl => Any.slices_Compact_int Tryd.laysNm220 blk off cap zs w hH hb hl
  nil := fun A cap w => Any.slices_Compact_int_empty Tryd.laysNm220 A cap w
theorem joinC : JoinC Tryd.prog 28 where
  known := ⟨Tryd.f28, Tryd.func28, rfl, by kernel_rfl⟩
  run := fun bk o c xs sep w h1 h2 h3 h4 h5 => Any.strings_Join Tryd.lays156 Tryd.Builder_Extra_156 bk o c xs sep w h1 h2 h3 h4 h5
  none := fun a c sep w => Any.strings_Join_none Tryd.lays156 Tryd.Builder_Extra_156 a c sep w
theorem pow10 : Tryd.prog.globalNamed "internal/strconv.uint64pow10" = some 1 := by kernel_rfl
def G : Gd := tabG Tryd.prog "internal/strconv.uint64pow10" .u64 Lib.pow10Tab 1 pow10
theorem itoaC : ItoaT Tryd.prog 81 "internal/strconv.uint64pow10" Lib.pow10Tab where
  known := ⟨Tryd.f81, Tryd.func81, rfl, by kernel_rfl⟩
  run := fun n w h0 h1 htab => Any.strconv_Itoa Tryd.laysM171 n h0 h1 w htab
theorem sound (k : Nat) : Sound Tryd.prog G (C k) := evCall_ok (drawSound mixed) (okProg ok) (fun _ _ => rfl) (sound_prims (by
  intro x hx
  simp only [List.mem_cons, List.not_mem_nil, or_false] at hx
  rcases hx with rfl | rfl | rfl | rfl
  · exact sortC.ok
  · exact compactC.ok
  · exact joinC.ok
  · exact itoaC.ok)) k
end Go.Proofs.YtekcjghbfbfmpaaDoor.Q

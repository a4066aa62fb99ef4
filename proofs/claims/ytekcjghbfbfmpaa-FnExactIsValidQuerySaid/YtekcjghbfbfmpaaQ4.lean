/-
For every argument the laws FnExactIsValidQuery and FnExactIsValidInequality return true, and the arguments read afterwards as they read before. No condition.
-/
import Derived.Test.YtekcjghbfbfmpaaProg
import Derived.Test.YtekcjghbfbfmpaaOb
import Derived.KernelRfl
import Derived.Shelf.Sort.Plain
import Derived.Shelf.Slices.CompactI
import Derived.Test.YtekcjghbfbfmpaaRows
set_option linter.unusedVariables false
set_option linter.unusedSimpArgs false
/-! F4 -/
namespace Go.Proofs.Ytekcjghbfbfmpaa.Q4
open Go Ovi
noncomputable abbrev P := Try.prog
def sg : FuncId → Sig := fun f => match f with
  | 4 => [(false, [.bool])]
  | 5 => [(false, [.bool])]
  | 11 => [(false, [.int .i64])]
  | 13 => [(true, [.own 3 1, .own 95 2])]
  | 15 => [(false, [.bool])]
  | 16 => [(false, [.int .i64])]
  | 17 => [(false, [.bool])]
  | 18 => [(false, [.own 104 3])]
  | 19 => [(false, [.bool])]
  | 20 => [(false, [.bool])]
  | 21 => [(false, [.int .i64])]
  | 22 => [(false, [.bool])]
  | 23 => [(true, [.own 3 1, .own 95 2, .int .i64, .int .i64])]
  | 24 => [(false, [.bool])]
  | 25 => [(false, [.bool])]
  | 29 => [(false, [.own 3 1])]
  | 32 => [(false, [.bool])]
  | 52 => [(false, [.int .i64])]
  | 53 => [(false, [.int .i64])]
  | 56 => [(false, [.own 95 2])]
  | 60 => [(false, [.bool])]
  | 61 => [(false, [.int .i64])]
  | 62 => [(false, [.ro 1])]
  | 63 => [(false, [.bool])]
  | 64 => [(false, [.bool])]
  | 65 => [(false, [.bool])]
  | 66 => [(true, [.str, .int .i64, .bool])]
  | 67 => [(false, [.own 3 1])]
  | 68 => [(false, [.bool])]
  | 69 => [(false, [.bool])]
  | 70 => [(false, [.bool])]
  | 71 => [(false, [.bool])]
  | 72 => [(false, [.bool])]
  | 106 => [(false, [.int .i64])]
  | 107 => [(true, [.int .i64, .own 3 1])]
  | 108 => [(false, [.bool])]
  | 109 => [(false, [.ro 1])]
  | 110 => [(false, [.bool])]
  | 111 => [(true, [])]
  | 112 => [(true, []), (true, [])]
  | 113 => [(false, [.bool])]
  | 114 => [(false, [.bool])]
  | 115 => [(false, [.bool])]
  | 116 => [(false, [.bool])]
  | 117 => [(false, [.int .i64])]
  | 118 => [(false, [.int .i64])]
  | 123 => [(false, [.bool])]
  | 155 => [(false, [.bool])]
  | 156 => []
  | 157 => [(false, [.int .i64])]
  | 158 => [(false, [.int .i64])]
  | 159 => [(false, [.bool])]
  | 160 => [(false, [.bool])]
  | 177 => []
  | 178 => []
  | 179 => []
  | 180 => [(false, [.int .i64]), (false, [.int .i64])]
  | 181 => []
  | 182 => [(false, [.bool])]
  | 183 => [(false, [.bool])]
  | 184 => [(false, [.int .i64])]
  | 185 => [(false, [.int .i64]), (false, [.bool])]
  | 186 => [(false, [.int .i64])]
  | 187 => [(false, [.int .i64])]
  | 188 => [(false, [.bool])]
  | 199 => []
  | 200 => [(false, [.int .u64])]
  | 201 => [(false, [.int .u64])]
  | 202 => [(false, [.int .i64])]
  | 203 => [(false, [.int .i64])]
  | 207 => [(false, [.int .i64]), (false, [.int .i64])]
  | _ => []
def lp : FuncId → Nat → LoopHint := fun f l => match f, l with
  | 16, 5 => [(0, .same), (1, .same), (5, .same)]
  | 17, 3 => [(0, .same), (3, .box [.same, .same]), (5, .same), (6, .same)]
  | 17, 8 => [(3, .box [.same, .same]), (5, .same), (7, .same)]
  | 18, 3 => [(0, .same), (3, .own 104 3), (4, .same)]
  | 20, 4 => [(0, .same), (1, .same), (5, .same)]
  | 29, 3 => [(0, .same), (3, .own 3 1), (4, .same)]
  | 32, 4 => [(0, .same), (1, .same), (5, .same)]
  | 53, 5 => [(0, .same), (1, .same), (5, .same)]
  | 56, 3 => [(0, .same), (3, .own 95 2), (4, .same)]
  | 60, 4 => [(0, .same), (1, .same), (5, .same)]
  | 62, 3 => [(0, .same), (3, .data 1), (4, .same)]
  | 62, 6 => [(0, .same), (3, .data 1), (4, .same), (5, .same)]
  | 63, 4 => [(3, .box [.same, .same]), (5, .same)]
  | 64, 2 => [(0, .same), (1, .same), (5, .same)]
  | 67, 3 => [(3, .own 3 1), (9, .same), (10, .same), (11, .same)]
  | 67, 6 => [(3, .own 3 1), (9, .same), (10, .same), (11, .same), (16, .data 1), (17, .same), (18, .same)]
  | 109, 2 => [(0, .same), (1, .same), (5, .same)]
  | 110, 2 => [(0, .same), (3, .same)]
  | 112, 4 => [(0, .same), (3, .same)]
  | 112, 9 => [(0, .same), (3, .same), (4, .same), (5, .same)]
  | 117, 2 => [(0, .same), (1, .same), (7, .same), (8, .same)]
  | 118, 2 => [(0, .same), (1, .same), (7, .same), (8, .same)]
  | 123, 2 => [(0, .same), (5, .same), (6, .same), (7, .same)]
  | 156, 2 => [(0, .same), (1, .same), (2, .same), (3, .same), (8, .same), (9, .same)]
  | 158, 2 => [(0, .same), (1, .same), (7, .same), (8, .same)]
  | 177, 1 => [(0, .same), (1, .same), (2, .same), (6, .same)]
  | 177, 4 => [(0, .same), (1, .same), (2, .same), (6, .same), (7, .same)]
  | 178, 4 => [(0, .same), (6, .same), (7, .same), (8, .same), (9, .same)]
  | 178, 8 => [(0, .same), (6, .same), (7, .same), (10, .same)]
  | 179, 5 => [(0, .same), (1, .same), (6, .same), (7, .box [.same]), (8, .same), (9, .same)]
  | 181, 2 => [(0, .same), (6, .same), (7, .same)]
  | 182, 3 => [(0, .same), (1, .same), (2, .same), (7, .same), (8, .same)]
  | 182, 5 => [(0, .same), (1, .same), (2, .same), (7, .same), (8, .same)]
  | 182, 14 => [(0, .same), (1, .same), (2, .same), (7, .same), (8, .same), (9, .same)]
  | 182, 20 => [(0, .same), (1, .same), (2, .same), (7, .same), (8, .same), (10, .same)]
  | 184, 3 => [(0, .same), (1, .same), (9, .same), (10, .same)]
  | 184, 5 => [(0, .same), (1, .same), (9, .same), (10, .same)]
  | 185, 3 => [(0, .same), (1, .same), (10, .same), (11, .same)]
  | 185, 5 => [(0, .same), (1, .same), (10, .same), (11, .same)]
  | 185, 13 => [(0, .same), (1, .same), (10, .same), (11, .same)]
  | 185, 15 => [(0, .same), (1, .same), (10, .same), (11, .same)]
  | 199, 1 => [(0, .same), (2, .same), (3, .same), (8, .same)]
  | _, _ => []
def hs : Hints := { sig := sg, loops := lp, joins := fun _ _ => none }

def prim : FuncId → Option (Args → Option Res) := prim2 111 112
noncomputable def C (k : Nat) : CallF := evCall P hs prim k
set_option maxRecDepth 1000000
theorem F4.eq (k : Nat) (call : CallF) (a0 : Ovi.Rows) (a1_0 : Ovi.Rows) (a1_1 : Ovi.Rows) : evFnK P hs call (4 : FuncId) k Try.f4 [AV.d (D.list 3 a0), AV.agg [AV.d (D.list 1 a1_0), AV.d (D.list 2 a1_1)]] = bindR (call 16 [AV.d (D.list 3 a0), AV.d (D.int IntKind.i64 (1048576 : Int))]) fun r5 => bindI (resI IntKind.i64 1 false 1 r5 0 0) fun n6 => ite' (decide (n6 < (0 : Int))) (some ([(false, [RL.d (D.bool true)])])) (bindR (call 11 [AV.agg [AV.d (D.list 1 a1_0), AV.d (D.list 2 a1_1)], AV.d (D.int IntKind.i64 n6)]) fun r7 => bindI (resI IntKind.i64 1 false 1 r7 0 0) fun n8 => ite' (decide (n8 < (0 : Int))) (some ([(false, [RL.d (D.bool true)])])) (bindR (call 18 [AV.d (D.list 3 a0)]) fun r9 => bindL (resO 104 3 1 false 1 r9 0 0) fun l10 => bindR (call 13 [AV.agg [AV.d (D.list 1 a1_0), AV.d (D.list 2 a1_1)]]) fun r11 => bindL (resO 3 1 1 true 2 r11 0 0) fun l12 => bindL (resO 95 2 1 true 2 r11 0 1) fun l13 => bindR (call 17 [AV.d (D.list 3 l10), AV.agg [AV.d (D.list 1 l12), AV.d (D.list 2 l13)]]) fun r14 => bindB (resB 1 false 1 r14 0 0) fun b15 => bindR (call 18 [AV.d (D.list 3 a0)]) fun r16 => bindL (resO 104 3 1 false 1 r16 0 0) fun l17 => bindR (call 13 [AV.agg [AV.d (D.list 1 a1_0), AV.d (D.list 2 a1_1)]]) fun r18 => bindL (resO 3 1 1 true 2 r18 0 0) fun l19 => bindL (resO 95 2 1 true 2 r18 0 1) fun l20 => bindR (call 19 [AV.d (D.list 3 l17), AV.agg [AV.d (D.list 1 l19), AV.d (D.list 2 l20)]]) fun r21 => bindB (resB 1 false 1 r21 0 0) fun b22 => ite' (!b22 == b15) (some ([(false, [RL.d (D.bool false)])])) (bindR (call 18 [AV.d (D.list 3 a0)]) fun r23 => bindL (resO 104 3 1 false 1 r23 0 0) fun l24 => bindR (call 20 [AV.d (D.list 3 l17), AV.d (D.list 3 l24)]) fun r25 => bindB (resB 1 false 1 r25 0 0) fun b26 => ite' (!b26) (some ([(false, [RL.d (D.bool false)])])) (bindR (call 13 [AV.agg [AV.d (D.list 1 a1_0), AV.d (D.list 2 a1_1)]]) fun r27 => bindL (resO 3 1 1 true 2 r27 0 0) fun l28 => bindL (resO 95 2 1 true 2 r27 0 1) fun l29 => bindR (call 15 [AV.agg [AV.d (D.list 1 l19), AV.d (D.list 2 l20)], AV.agg [AV.d (D.list 1 l28), AV.d (D.list 2 l29)]]) fun r30 => bindB (resB 1 false 1 r30 0 0) fun b31 => ite' (!b31) (some ([(false, [RL.d (D.bool false)])])) (some ([(false, [RL.d (D.bool true)])])))))) := by kernel_rfl
theorem F4.run (k : Nat) (a0 : Ovi.Rows) (a1_0 : Ovi.Rows) (a1_1 : Ovi.Rows) : C (k + 1) 4 [AV.d (D.list 3 a0), AV.agg [AV.d (D.list 1 a1_0), AV.d (D.list 2 a1_1)]] = bindR ((C k) 16 [AV.d (D.list 3 a0), AV.d (D.int IntKind.i64 (1048576 : Int))]) fun r5 => bindI (resI IntKind.i64 1 false 1 r5 0 0) fun n6 => ite' (decide (n6 < (0 : Int))) (some ([(false, [RL.d (D.bool true)])])) (bindR ((C k) 11 [AV.agg [AV.d (D.list 1 a1_0), AV.d (D.list 2 a1_1)], AV.d (D.int IntKind.i64 n6)]) fun r7 => bindI (resI IntKind.i64 1 false 1 r7 0 0) fun n8 => ite' (decide (n8 < (0 : Int))) (some ([(false, [RL.d (D.bool true)])])) (bindR ((C k) 18 [AV.d (D.list 3 a0)]) fun r9 => bindL (resO 104 3 1 false 1 r9 0 0) fun l10 => bindR ((C k) 13 [AV.agg [AV.d (D.list 1 a1_0), AV.d (D.list 2 a1_1)]]) fun r11 => bindL (resO 3 1 1 true 2 r11 0 0) fun l12 => bindL (resO 95 2 1 true 2 r11 0 1) fun l13 => bindR ((C k) 17 [AV.d (D.list 3 l10), AV.agg [AV.d (D.list 1 l12), AV.d (D.list 2 l13)]]) fun r14 => bindB (resB 1 false 1 r14 0 0) fun b15 => bindR ((C k) 18 [AV.d (D.list 3 a0)]) fun r16 => bindL (resO 104 3 1 false 1 r16 0 0) fun l17 => bindR ((C k) 13 [AV.agg [AV.d (D.list 1 a1_0), AV.d (D.list 2 a1_1)]]) fun r18 => bindL (resO 3 1 1 true 2 r18 0 0) fun l19 => bindL (resO 95 2 1 true 2 r18 0 1) fun l20 => bindR ((C k) 19 [AV.d (D.list 3 l17), AV.agg [AV.d (D.list 1 l19), AV.d (D.list 2 l20)]]) fun r21 => bindB (resB 1 false 1 r21 0 0) fun b22 => ite' (!b22 == b15) (some ([(false, [RL.d (D.bool false)])])) (bindR ((C k) 18 [AV.d (D.list 3 a0)]) fun r23 => bindL (resO 104 3 1 false 1 r23 0 0) fun l24 => bindR ((C k) 20 [AV.d (D.list 3 l17), AV.d (D.list 3 l24)]) fun r25 => bindB (resB 1 false 1 r25 0 0) fun b26 => ite' (!b26) (some ([(false, [RL.d (D.bool false)])])) (bindR ((C k) 13 [AV.agg [AV.d (D.list 1 a1_0), AV.d (D.list 2 a1_1)]]) fun r27 => bindL (resO 3 1 1 true 2 r27 0 0) fun l28 => bindL (resO 95 2 1 true 2 r27 0 1) fun l29 => bindR ((C k) 15 [AV.agg [AV.d (D.list 1 l19), AV.d (D.list 2 l20)], AV.agg [AV.d (D.list 1 l28), AV.d (D.list 2 l29)]]) fun r30 => bindB (resB 1 false 1 r30 0 0) fun b31 => ite' (!b31) (some ([(false, [RL.d (D.bool false)])])) (some ([(false, [RL.d (D.bool true)])])))))) := (show C (k + 1) 4 [AV.d (D.list 3 a0), AV.agg [AV.d (D.list 1 a1_0), AV.d (D.list 2 a1_1)]] = evFnK P hs (C k) 4 k Try.f4 [AV.d (D.list 3 a0), AV.agg [AV.d (D.list 1 a1_0), AV.d (D.list 2 a1_1)]] by kernel_rfl).trans (F4.eq k (C k) a0 a1_0 a1_1)
theorem F5.eq (k : Nat) (call : CallF) (a0 : Ovi.Rows) (a1_0 : Ovi.Rows) (a1_1 : Ovi.Rows) (a1_2 : Int) (a1_3 : Int) : evFnK P hs call (5 : FuncId) k Try.f5 [AV.d (D.list 3 a0), AV.agg [AV.d (D.list 1 a1_0), AV.d (D.list 2 a1_1), AV.d (D.int IntKind.i64 a1_2), AV.d (D.int IntKind.i64 a1_3)]] = bindR (call 16 [AV.d (D.list 3 a0), AV.d (D.int IntKind.i64 (1048576 : Int))]) fun r7 => bindI (resI IntKind.i64 1 false 1 r7 0 0) fun n8 => ite' (decide (n8 < (0 : Int))) (some ([(false, [RL.d (D.bool true)])])) (bindR (call 21 [AV.agg [AV.d (D.list 1 a1_0), AV.d (D.list 2 a1_1), AV.d (D.int IntKind.i64 a1_2), AV.d (D.int IntKind.i64 a1_3)], AV.d (D.int IntKind.i64 n8)]) fun r9 => bindI (resI IntKind.i64 1 false 1 r9 0 0) fun n10 => ite' (decide (n10 < (0 : Int))) (some ([(false, [RL.d (D.bool true)])])) (bindR (call 18 [AV.d (D.list 3 a0)]) fun r11 => bindL (resO 104 3 1 false 1 r11 0 0) fun l12 => bindR (call 23 [AV.agg [AV.d (D.list 1 a1_0), AV.d (D.list 2 a1_1), AV.d (D.int IntKind.i64 a1_2), AV.d (D.int IntKind.i64 a1_3)]]) fun r13 => bindL (resO 3 1 1 true 4 r13 0 0) fun l14 => bindL (resO 95 2 1 true 4 r13 0 1) fun l15 => bindI (resI IntKind.i64 1 true 4 r13 0 2) fun n16 => bindI (resI IntKind.i64 1 true 4 r13 0 3) fun n17 => bindR (call 22 [AV.d (D.list 3 l12), AV.agg [AV.d (D.list 1 l14), AV.d (D.list 2 l15), AV.d (D.int IntKind.i64 n16), AV.d (D.int IntKind.i64 n17)]]) fun r18 => bindB (resB 1 false 1 r18 0 0) fun b19 => bindR (call 18 [AV.d (D.list 3 a0)]) fun r20 => bindL (resO 104 3 1 false 1 r20 0 0) fun l21 => bindR (call 23 [AV.agg [AV.d (D.list 1 a1_0), AV.d (D.list 2 a1_1), AV.d (D.int IntKind.i64 a1_2), AV.d (D.int IntKind.i64 a1_3)]]) fun r22 => bindL (resO 3 1 1 true 4 r22 0 0) fun l23 => bindL (resO 95 2 1 true 4 r22 0 1) fun l24 => bindI (resI IntKind.i64 1 true 4 r22 0 2) fun n25 => bindI (resI IntKind.i64 1 true 4 r22 0 3) fun n26 => bindR (call 24 [AV.d (D.list 3 l21), AV.agg [AV.d (D.list 1 l23), AV.d (D.list 2 l24), AV.d (D.int IntKind.i64 n25), AV.d (D.int IntKind.i64 n26)]]) fun r27 => bindB (resB 1 false 1 r27 0 0) fun b28 => ite' (!b28 == b19) (some ([(false, [RL.d (D.bool false)])])) (bindR (call 18 [AV.d (D.list 3 a0)]) fun r29 => bindL (resO 104 3 1 false 1 r29 0 0) fun l30 => bindR (call 20 [AV.d (D.list 3 l21), AV.d (D.list 3 l30)]) fun r31 => bindB (resB 1 false 1 r31 0 0) fun b32 => ite' (!b32) (some ([(false, [RL.d (D.bool false)])])) (bindR (call 23 [AV.agg [AV.d (D.list 1 a1_0), AV.d (D.list 2 a1_1), AV.d (D.int IntKind.i64 a1_2), AV.d (D.int IntKind.i64 a1_3)]]) fun r33 => bindL (resO 3 1 1 true 4 r33 0 0) fun l34 => bindL (resO 95 2 1 true 4 r33 0 1) fun l35 => bindI (resI IntKind.i64 1 true 4 r33 0 2) fun n36 => bindI (resI IntKind.i64 1 true 4 r33 0 3) fun n37 => bindR (call 25 [AV.agg [AV.d (D.list 1 l23), AV.d (D.list 2 l24), AV.d (D.int IntKind.i64 n25), AV.d (D.int IntKind.i64 n26)], AV.agg [AV.d (D.list 1 l34), AV.d (D.list 2 l35), AV.d (D.int IntKind.i64 n36), AV.d (D.int IntKind.i64 n37)]]) fun r38 => bindB (resB 1 false 1 r38 0 0) fun b39 => ite' (!b39) (some ([(false, [RL.d (D.bool false)])])) (some ([(false, [RL.d (D.bool true)])])))))) := by kernel_rfl
theorem F5.run (k : Nat) (a0 : Ovi.Rows) (a1_0 : Ovi.Rows) (a1_1 : Ovi.Rows) (a1_2 : Int) (a1_3 : Int) : C (k + 1) 5 [AV.d (D.list 3 a0), AV.agg [AV.d (D.list 1 a1_0), AV.d (D.list 2 a1_1), AV.d (D.int IntKind.i64 a1_2), AV.d (D.int IntKind.i64 a1_3)]] = bindR ((C k) 16 [AV.d (D.list 3 a0), AV.d (D.int IntKind.i64 (1048576 : Int))]) fun r7 => bindI (resI IntKind.i64 1 false 1 r7 0 0) fun n8 => ite' (decide (n8 < (0 : Int))) (some ([(false, [RL.d (D.bool true)])])) (bindR ((C k) 21 [AV.agg [AV.d (D.list 1 a1_0), AV.d (D.list 2 a1_1), AV.d (D.int IntKind.i64 a1_2), AV.d (D.int IntKind.i64 a1_3)], AV.d (D.int IntKind.i64 n8)]) fun r9 => bindI (resI IntKind.i64 1 false 1 r9 0 0) fun n10 => ite' (decide (n10 < (0 : Int))) (some ([(false, [RL.d (D.bool true)])])) (bindR ((C k) 18 [AV.d (D.list 3 a0)]) fun r11 => bindL (resO 104 3 1 false 1 r11 0 0) fun l12 => bindR ((C k) 23 [AV.agg [AV.d (D.list 1 a1_0), AV.d (D.list 2 a1_1), AV.d (D.int IntKind.i64 a1_2), AV.d (D.int IntKind.i64 a1_3)]]) fun r13 => bindL (resO 3 1 1 true 4 r13 0 0) fun l14 => bindL (resO 95 2 1 true 4 r13 0 1) fun l15 => bindI (resI IntKind.i64 1 true 4 r13 0 2) fun n16 => bindI (resI IntKind.i64 1 true 4 r13 0 3) fun n17 => bindR ((C k) 22 [AV.d (D.list 3 l12), AV.agg [AV.d (D.list 1 l14), AV.d (D.list 2 l15), AV.d (D.int IntKind.i64 n16), AV.d (D.int IntKind.i64 n17)]]) fun r18 => bindB (resB 1 false 1 r18 0 0) fun b19 => bindR ((C k) 18 [AV.d (D.list 3 a0)]) fun r20 => bindL (resO 104 3 1 false 1 r20 0 0) fun l21 => bindR ((C k) 23 [AV.agg [AV.d (D.list 1 a1_0), AV.d (D.list 2 a1_1), AV.d (D.int IntKind.i64 a1_2), AV.d (D.int IntKind.i64 a1_3)]]) fun r22 => bindL (resO 3 1 1 true 4 r22 0 0) fun l23 => bindL (resO 95 2 1 true 4 r22 0 1) fun l24 => bindI (resI IntKind.i64 1 true 4 r22 0 2) fun n25 => bindI (resI IntKind.i64 1 true 4 r22 0 3) fun n26 => bindR ((C k) 24 [AV.d (D.list 3 l21), AV.agg [AV.d (D.list 1 l23), AV.d (D.list 2 l24), AV.d (D.int IntKind.i64 n25), AV.d (D.int IntKind.i64 n26)]]) fun r27 => bindB (resB 1 false 1 r27 0 0) fun b28 => ite' (!b28 == b19) (some ([(false, [RL.d (D.bool false)])])) (bindR ((C k) 18 [AV.d (D.list 3 a0)]) fun r29 => bindL (resO 104 3 1 false 1 r29 0 0) fun l30 => bindR ((C k) 20 [AV.d (D.list 3 l21), AV.d (D.list 3 l30)]) fun r31 => bindB (resB 1 false 1 r31 0 0) fun b32 => ite' (!b32) (some ([(false, [RL.d (D.bool false)])])) (bindR ((C k) 23 [AV.agg [AV.d (D.list 1 a1_0), AV.d (D.list 2 a1_1), AV.d (D.int IntKind.i64 a1_2), AV.d (D.int IntKind.i64 a1_3)]]) fun r33 => bindL (resO 3 1 1 true 4 r33 0 0) fun l34 => bindL (resO 95 2 1 true 4 r33 0 1) fun l35 => bindI (resI IntKind.i64 1 true 4 r33 0 2) fun n36 => bindI (resI IntKind.i64 1 true 4 r33 0 3) fun n37 => bindR ((C k) 25 [AV.agg [AV.d (D.list 1 l23), AV.d (D.list 2 l24), AV.d (D.int IntKind.i64 n25), AV.d (D.int IntKind.i64 n26)], AV.agg [AV.d (D.list 1 l34), AV.d (D.list 2 l35), AV.d (D.int IntKind.i64 n36), AV.d (D.int IntKind.i64 n37)]]) fun r38 => bindB (resB 1 false 1 r38 0 0) fun b39 => ite' (!b39) (some ([(false, [RL.d (D.bool false)])])) (some ([(false, [RL.d (D.bool true)])])))))) := (show C (k + 1) 5 [AV.d (D.list 3 a0), AV.agg [AV.d (D.list 1 a1_0), AV.d (D.list 2 a1_1), AV.d (D.int IntKind.i64 a1_2), AV.d (D.int IntKind.i64 a1_3)]] = evFnK P hs (C k) 5 k Try.f5 [AV.d (D.list 3 a0), AV.agg [AV.d (D.list 1 a1_0), AV.d (D.list 2 a1_1), AV.d (D.int IntKind.i64 a1_2), AV.d (D.int IntKind.i64 a1_3)]] by kernel_rfl).trans (F5.eq k (C k) a0 a1_0 a1_1 a1_2 a1_3)
theorem F11.eq (k : Nat) (call : CallF) (a0_0 : Ovi.Rows) (a0_1 : Ovi.Rows) (a1 : Int) : evFnK P hs call (11 : FuncId) k Try.f11 [AV.agg [AV.d (D.list 1 a0_0), AV.d (D.list 2 a0_1)], AV.d (D.int IntKind.i64 a1)] = bindR (call 52 [AV.d (D.list 1 a0_0), AV.d (D.int IntKind.i64 a1)]) fun r5 => bindI (resI IntKind.i64 1 false 1 r5 0 0) fun n6 => ite' (decide (n6 < (0 : Int))) (some ([(false, [RL.d (D.int IntKind.i64 (-1 : Int))])])) (bindR (call 53 [AV.d (D.list 2 a0_1), AV.d (D.int IntKind.i64 n6)]) fun r7 => bindI (resI IntKind.i64 1 false 1 r7 0 0) fun n8 => ite' (decide (n8 < (0 : Int))) (some ([(false, [RL.d (D.int IntKind.i64 (-1 : Int))])])) (some ([(false, [RL.d (D.int IntKind.i64 n8)])]))) := by kernel_rfl
theorem F11.run (k : Nat) (a0_0 : Ovi.Rows) (a0_1 : Ovi.Rows) (a1 : Int) : C (k + 1) 11 [AV.agg [AV.d (D.list 1 a0_0), AV.d (D.list 2 a0_1)], AV.d (D.int IntKind.i64 a1)] = bindR ((C k) 52 [AV.d (D.list 1 a0_0), AV.d (D.int IntKind.i64 a1)]) fun r5 => bindI (resI IntKind.i64 1 false 1 r5 0 0) fun n6 => ite' (decide (n6 < (0 : Int))) (some ([(false, [RL.d (D.int IntKind.i64 (-1 : Int))])])) (bindR ((C k) 53 [AV.d (D.list 2 a0_1), AV.d (D.int IntKind.i64 n6)]) fun r7 => bindI (resI IntKind.i64 1 false 1 r7 0 0) fun n8 => ite' (decide (n8 < (0 : Int))) (some ([(false, [RL.d (D.int IntKind.i64 (-1 : Int))])])) (some ([(false, [RL.d (D.int IntKind.i64 n8)])]))) := (show C (k + 1) 11 [AV.agg [AV.d (D.list 1 a0_0), AV.d (D.list 2 a0_1)], AV.d (D.int IntKind.i64 a1)] = evFnK P hs (C k) 11 k Try.f11 [AV.agg [AV.d (D.list 1 a0_0), AV.d (D.list 2 a0_1)], AV.d (D.int IntKind.i64 a1)] by kernel_rfl).trans (F11.eq k (C k) a0_0 a0_1 a1)
theorem F13.eq (k : Nat) (call : CallF) (a0_0 : Ovi.Rows) (a0_1 : Ovi.Rows) : evFnK P hs call (13 : FuncId) k Try.f13 [AV.agg [AV.d (D.list 1 a0_0), AV.d (D.list 2 a0_1)]] = bindR (call 29 [AV.d (D.list 1 a0_0)]) fun r4 => bindL (resO 3 1 1 false 1 r4 0 0) fun l5 => bindR (call 56 [AV.d (D.list 2 a0_1)]) fun r6 => bindL (resO 95 2 1 false 1 r6 0 0) fun l7 => some ([(true, [RL.row 3 1 l5, RL.row 95 2 l7])]) := by kernel_rfl
theorem F13.run (k : Nat) (a0_0 : Ovi.Rows) (a0_1 : Ovi.Rows) : C (k + 1) 13 [AV.agg [AV.d (D.list 1 a0_0), AV.d (D.list 2 a0_1)]] = bindR ((C k) 29 [AV.d (D.list 1 a0_0)]) fun r4 => bindL (resO 3 1 1 false 1 r4 0 0) fun l5 => bindR ((C k) 56 [AV.d (D.list 2 a0_1)]) fun r6 => bindL (resO 95 2 1 false 1 r6 0 0) fun l7 => some ([(true, [RL.row 3 1 l5, RL.row 95 2 l7])]) := (show C (k + 1) 13 [AV.agg [AV.d (D.list 1 a0_0), AV.d (D.list 2 a0_1)]] = evFnK P hs (C k) 13 k Try.f13 [AV.agg [AV.d (D.list 1 a0_0), AV.d (D.list 2 a0_1)]] by kernel_rfl).trans (F13.eq k (C k) a0_0 a0_1)
theorem F15.eq (k : Nat) (call : CallF) (a0_0 : Ovi.Rows) (a0_1 : Ovi.Rows) (a1_0 : Ovi.Rows) (a1_1 : Ovi.Rows) : evFnK P hs call (15 : FuncId) k Try.f15 [AV.agg [AV.d (D.list 1 a0_0), AV.d (D.list 2 a0_1)], AV.agg [AV.d (D.list 1 a1_0), AV.d (D.list 2 a1_1)]] = bindR (call 32 [AV.d (D.list 1 a0_0), AV.d (D.list 1 a1_0)]) fun r6 => bindB (resB 1 false 1 r6 0 0) fun b7 => ite' (!b7) (some ([(false, [RL.d (D.bool false)])])) (bindR (call 60 [AV.d (D.list 2 a0_1), AV.d (D.list 2 a1_1)]) fun r8 => bindB (resB 1 false 1 r8 0 0) fun b9 => ite' (!b9) (some ([(false, [RL.d (D.bool false)])])) (some ([(false, [RL.d (D.bool true)])]))) := by kernel_rfl
theorem F15.run (k : Nat) (a0_0 : Ovi.Rows) (a0_1 : Ovi.Rows) (a1_0 : Ovi.Rows) (a1_1 : Ovi.Rows) : C (k + 1) 15 [AV.agg [AV.d (D.list 1 a0_0), AV.d (D.list 2 a0_1)], AV.agg [AV.d (D.list 1 a1_0), AV.d (D.list 2 a1_1)]] = bindR ((C k) 32 [AV.d (D.list 1 a0_0), AV.d (D.list 1 a1_0)]) fun r6 => bindB (resB 1 false 1 r6 0 0) fun b7 => ite' (!b7) (some ([(false, [RL.d (D.bool false)])])) (bindR ((C k) 60 [AV.d (D.list 2 a0_1), AV.d (D.list 2 a1_1)]) fun r8 => bindB (resB 1 false 1 r8 0 0) fun b9 => ite' (!b9) (some ([(false, [RL.d (D.bool false)])])) (some ([(false, [RL.d (D.bool true)])]))) := (show C (k + 1) 15 [AV.agg [AV.d (D.list 1 a0_0), AV.d (D.list 2 a0_1)], AV.agg [AV.d (D.list 1 a1_0), AV.d (D.list 2 a1_1)]] = evFnK P hs (C k) 15 k Try.f15 [AV.agg [AV.d (D.list 1 a0_0), AV.d (D.list 2 a0_1)], AV.agg [AV.d (D.list 1 a1_0), AV.d (D.list 2 a1_1)]] by kernel_rfl).trans (F15.eq k (C k) a0_0 a0_1 a1_0 a1_1)
noncomputable def F16.L5 (k : Nat) (call : CallF)  (n : Nat) (v0 : Ovi.Rows) (v1 : Int) (v2 : Int) : Option Res := loopFn P hs call 16 k Try.f16 [1, 1, 1, 0, 1, 0] [] n [(0, AV.d (D.list 3 v0)), (1, AV.d (D.int IntKind.i64 v1)), (5, AV.d (D.int IntKind.i64 v2))] []
theorem F16.L5.zero (k : Nat) (call : CallF)  (v0 : Ovi.Rows) (v1 : Int) (v2 : Int) : F16.L5 k call  0 v0 v1 v2 = none := by kernel_rfl
theorem F16.L5.succ (k : Nat) (call : CallF)  (n : Nat) (v0 : Ovi.Rows) (v1 : Int) (v2 : Int) : F16.L5 k call  (n + 1) v0 v1 v2 = ite' (decide (v2 < (↑(List.length v0) : Int))) (ite' (inR v2 (List.length v0)) (bindS (cellS v0 v2.toNat 0) fun s8 => bindI (cellI IntKind.i64 v0 v2.toNat 1) fun n9 => bindB (cellB v0 v2.toNat 2) fun b10 => bindR (call 61 [AV.agg [AV.d (D.str s8), AV.d (D.int IntKind.i64 n9), AV.d (D.bool b10)], AV.d (D.int IntKind.i64 v1)]) fun r11 => bindI (resI IntKind.i64 1 false 1 r11 0 0) fun n12 => ite' (decide (n12 < (0 : Int))) (some ([(false, [RL.d (D.int IntKind.i64 (-1 : Int))])])) (F16.L5 k call  (n) (v0) (n12) (IntKind.i64.wrap (v2 + (1 : Int))))) (none)) (some ([(false, [RL.d (D.int IntKind.i64 v1)])])) := by kernel_rfl
theorem F16.eq (k : Nat) (call : CallF) (a0 : Ovi.Rows) (a1 : Int) : evFnK P hs call (16 : FuncId) k Try.f16 [AV.d (D.list 3 a0), AV.d (D.int IntKind.i64 a1)] = ite' (decide (IntKind.i64.wrap (a1 - (↑(List.length a0) : Int)) < (0 : Int))) (some ([(false, [RL.d (D.int IntKind.i64 (-1 : Int))])])) (F16.L5 k call  (k) (a0) (IntKind.i64.wrap (a1 - (↑(List.length a0) : Int))) ((0 : Int))) := by kernel_rfl
theorem F16.run (k : Nat) (a0 : Ovi.Rows) (a1 : Int) : C (k + 1) 16 [AV.d (D.list 3 a0), AV.d (D.int IntKind.i64 a1)] = ite' (decide (IntKind.i64.wrap (a1 - (↑(List.length a0) : Int)) < (0 : Int))) (some ([(false, [RL.d (D.int IntKind.i64 (-1 : Int))])])) (F16.L5 k (C k)  (k) (a0) (IntKind.i64.wrap (a1 - (↑(List.length a0) : Int))) ((0 : Int))) := (show C (k + 1) 16 [AV.d (D.list 3 a0), AV.d (D.int IntKind.i64 a1)] = evFnK P hs (C k) 16 k Try.f16 [AV.d (D.list 3 a0), AV.d (D.int IntKind.i64 a1)] by kernel_rfl).trans (F16.eq k (C k) a0 a1)
noncomputable def F17.L3 (k : Nat) (call : CallF)  (n : Nat) (v0 : Ovi.Rows) (v1 : Ovi.Rows) (v2 : Int) (v3 : Ovi.Rows) (v4 : Ovi.Rows) : Option Res := loopFn P hs call 17 k Try.f17 [1, 1, 0, 1, 0] [] n [(0, AV.d (D.list 3 v0)), (3, AV.var 192 0), (5, AV.d (D.list 1 v1)), (6, AV.d (D.int IntKind.i64 v2))] [(192, Blk.var [AV.d (D.list 1 v3), AV.d (D.list 2 v4)])]
noncomputable def F17.L8 (k : Nat) (call : CallF)  (n : Nat) (v0 : Ovi.Rows) (v1 : Int) (v2 : Ovi.Rows) (v3 : Ovi.Rows) : Option Res := loopFn P hs call 17 k Try.f17 [1, 1, 1, 0, 1, 0] [] n [(3, AV.var 192 0), (5, AV.d (D.list 1 v0)), (7, AV.d (D.int IntKind.i64 v1))] [(192, Blk.var [AV.d (D.list 1 v2), AV.d (D.list 2 v3)])]
theorem F17.L3.zero (k : Nat) (call : CallF)  (v0 : Ovi.Rows) (v1 : Ovi.Rows) (v2 : Int) (v3 : Ovi.Rows) (v4 : Ovi.Rows) : F17.L3 k call  0 v0 v1 v2 v3 v4 = none := by kernel_rfl
theorem F17.L3.succ (k : Nat) (call : CallF)  (n : Nat) (v0 : Ovi.Rows) (v1 : Ovi.Rows) (v2 : Int) (v3 : Ovi.Rows) (v4 : Ovi.Rows) : F17.L3 k call  (n + 1) v0 v1 v2 v3 v4 = ite' (decide (v2 < (↑(List.length v4) : Int))) (ite' (inR v2 (List.length v4)) (bindI (cellI IntKind.i64 v4 v2.toNat 0) fun n11 => bindL (cellL 1 v4 v2.toNat 1) fun l12 => bindR (call 63 [AV.d (D.list 3 v0), AV.agg [AV.d (D.int IntKind.i64 n11), AV.d (D.list 1 l12)]]) fun r13 => bindB (resB 1 false 1 r13 0 0) fun b14 => ite' (!b14) (some ([(false, [RL.d (D.bool false)])])) (F17.L3 k call  (n) (v0) (v1) (IntKind.i64.wrap (v2 + (1 : Int))) (v3) (v4))) (none)) (F17.L8 k call  (k) (v1) ((0 : Int)) (v3) (v4)) := by kernel_rfl
theorem F17.L8.zero (k : Nat) (call : CallF)  (v0 : Ovi.Rows) (v1 : Int) (v2 : Ovi.Rows) (v3 : Ovi.Rows) : F17.L8 k call  0 v0 v1 v2 v3 = none := by kernel_rfl
theorem F17.L8.succ (k : Nat) (call : CallF)  (n : Nat) (v0 : Ovi.Rows) (v1 : Int) (v2 : Ovi.Rows) (v3 : Ovi.Rows) : F17.L8 k call  (n + 1) v0 v1 v2 v3 = ite' (decide (v1 < (↑(List.length v2) : Int))) (ite' (inR v1 (List.length v2)) (bindI (cellI IntKind.i64 v2 v1.toNat 0) fun n10 => bindR (call 64 [AV.d (D.list 1 v0), AV.d (D.int IntKind.i64 n10)]) fun r11 => bindB (resB 1 false 1 r11 0 0) fun b12 => ite' (!b12) (some ([(false, [RL.d (D.bool false)])])) (F17.L8 k call  (n) (v0) (IntKind.i64.wrap (v1 + (1 : Int))) (v2) (v3))) (none)) (bindR (call 65 [AV.d (D.int IntKind.i64 (↑(List.length v3) : Int)), AV.d (D.int IntKind.i64 (1 : Int)), AV.d (D.int IntKind.i64 (3 : Int))]) fun r10 => bindB (resB 1 false 1 r10 0 0) fun b11 => ite' (b11) (some ([(false, [RL.d (D.bool (decide ((↑(List.length v2) : Int) ≤ (3 : Int))))])])) (some ([(false, [RL.d (D.bool false)])]))) := by kernel_rfl
theorem F17.eq (k : Nat) (call : CallF) (a0 : Ovi.Rows) (a1_0 : Ovi.Rows) (a1_1 : Ovi.Rows) : evFnK P hs call (17 : FuncId) k Try.f17 [AV.d (D.list 3 a0), AV.agg [AV.d (D.list 1 a1_0), AV.d (D.list 2 a1_1)]] = bindR (call 62 [AV.d (D.list 2 a1_1)]) fun r5 => bindL (resL 1 1 false 1 r5 0 0) fun l6 => F17.L3 k call  (k) (a0) (l6) ((0 : Int)) (a1_0) (a1_1) := by kernel_rfl
theorem F17.run (k : Nat) (a0 : Ovi.Rows) (a1_0 : Ovi.Rows) (a1_1 : Ovi.Rows) : C (k + 1) 17 [AV.d (D.list 3 a0), AV.agg [AV.d (D.list 1 a1_0), AV.d (D.list 2 a1_1)]] = bindR ((C k) 62 [AV.d (D.list 2 a1_1)]) fun r5 => bindL (resL 1 1 false 1 r5 0 0) fun l6 => F17.L3 k (C k)  (k) (a0) (l6) ((0 : Int)) (a1_0) (a1_1) := (show C (k + 1) 17 [AV.d (D.list 3 a0), AV.agg [AV.d (D.list 1 a1_0), AV.d (D.list 2 a1_1)]] = evFnK P hs (C k) 17 k Try.f17 [AV.d (D.list 3 a0), AV.agg [AV.d (D.list 1 a1_0), AV.d (D.list 2 a1_1)]] by kernel_rfl).trans (F17.eq k (C k) a0 a1_0 a1_1)
noncomputable def F18.L3 (k : Nat) (call : CallF)  (n : Nat) (v0 : Ovi.Rows) (v1 : Int) (v2 : Ovi.Rows) : Option Res := loopFn P hs call 18 k Try.f18 [1, 1, 0, 1, 0] [] n [(0, AV.d (D.list 3 v0)), (3, AV.own 100003 0), (4, AV.d (D.int IntKind.i64 v1))] [(100003, Blk.arr 104 3 0 v2)]
theorem F18.L3.zero (k : Nat) (call : CallF)  (v0 : Ovi.Rows) (v1 : Int) (v2 : Ovi.Rows) : F18.L3 k call  0 v0 v1 v2 = none := by kernel_rfl
theorem F18.L3.succ (k : Nat) (call : CallF)  (n : Nat) (v0 : Ovi.Rows) (v1 : Int) (v2 : Ovi.Rows) : F18.L3 k call  (n + 1) v0 v1 v2 = ite' (decide (v1 < (↑(List.length v0) : Int))) (ite' (inR v1 (List.length v0)) (bindS (cellS v0 v1.toNat 0) fun s7 => bindI (cellI IntKind.i64 v0 v1.toNat 1) fun n8 => bindB (cellB v0 v1.toNat 2) fun b9 => bindR (call 66 [AV.agg [AV.d (D.str s7), AV.d (D.int IntKind.i64 n8), AV.d (D.bool b9)]]) fun r10 => bindS (resS 1 true 3 r10 0 0) fun s11 => bindI (resI IntKind.i64 1 true 3 r10 0 1) fun n12 => bindB (resB 1 true 3 r10 0 2) fun b13 => ite' (inR v1 (List.length v2)) (F18.L3 k call  (n) (v0) (IntKind.i64.wrap (v1 + (1 : Int))) (rowsSet v2 v1.toNat 0 [D.str s11, D.int IntKind.i64 n12, D.bool b13])) (none)) (none)) (some ([(false, [RL.row 104 3 v2])])) := by kernel_rfl
theorem F18.eq (k : Nat) (call : CallF) (a0 : Ovi.Rows) : evFnK P hs call (18 : FuncId) k Try.f18 [AV.d (D.list 3 a0)] = ite' ((↑(List.length a0) : Int) == (↑(List.length a0) : Int)) (ite' (inM (↑(List.length a0) : Int)) (F18.L3 k call  (k) (a0) ((0 : Int)) (rowsOf (↑(List.length a0) : Int) [D.str ([] : List UInt8), D.int IntKind.i64 (0 : Int), D.bool false])) (none)) (none) := by kernel_rfl
theorem F18.run (k : Nat) (a0 : Ovi.Rows) : C (k + 1) 18 [AV.d (D.list 3 a0)] = ite' ((↑(List.length a0) : Int) == (↑(List.length a0) : Int)) (ite' (inM (↑(List.length a0) : Int)) (F18.L3 k (C k)  (k) (a0) ((0 : Int)) (rowsOf (↑(List.length a0) : Int) [D.str ([] : List UInt8), D.int IntKind.i64 (0 : Int), D.bool false])) (none)) (none) := (show C (k + 1) 18 [AV.d (D.list 3 a0)] = evFnK P hs (C k) 18 k Try.f18 [AV.d (D.list 3 a0)] by kernel_rfl).trans (F18.eq k (C k) a0)
theorem F19.eq (k : Nat) (call : CallF) (a0 : Ovi.Rows) (a1_0 : Ovi.Rows) (a1_1 : Ovi.Rows) : evFnK P hs call (19 : FuncId) k Try.f19 [AV.d (D.list 3 a0), AV.agg [AV.d (D.list 1 a1_0), AV.d (D.list 2 a1_1)]] = bindR (call 67 [AV.d (D.list 2 a1_1)]) fun r5 => bindL (resO 3 1 1 false 1 r5 0 0) fun l6 => bindR (call 68 [AV.d (D.list 3 a0), AV.d (D.list 2 a1_1), AV.d (D.int IntKind.i64 (3 : Int))]) fun r7 => bindB (resB 1 false 1 r7 0 0) fun b8 => ite' (b8) (ite' (decide ((↑(List.length a1_0) : Int) ≤ (3 : Int))) (bindR (call 69 [AV.d (D.list 1 a1_0), AV.d (D.fn 70 [[D.list 1 l6]])]) fun r9 => bindB (resB 1 false 1 r9 0 0) fun b10 => some ([(false, [RL.d (D.bool !b10)])])) (some ([(false, [RL.d (D.bool false)])]))) (some ([(false, [RL.d (D.bool false)])])) := by kernel_rfl
theorem F19.run (k : Nat) (a0 : Ovi.Rows) (a1_0 : Ovi.Rows) (a1_1 : Ovi.Rows) : C (k + 1) 19 [AV.d (D.list 3 a0), AV.agg [AV.d (D.list 1 a1_0), AV.d (D.list 2 a1_1)]] = bindR ((C k) 67 [AV.d (D.list 2 a1_1)]) fun r5 => bindL (resO 3 1 1 false 1 r5 0 0) fun l6 => bindR ((C k) 68 [AV.d (D.list 3 a0), AV.d (D.list 2 a1_1), AV.d (D.int IntKind.i64 (3 : Int))]) fun r7 => bindB (resB 1 false 1 r7 0 0) fun b8 => ite' (b8) (ite' (decide ((↑(List.length a1_0) : Int) ≤ (3 : Int))) (bindR ((C k) 69 [AV.d (D.list 1 a1_0), AV.d (D.fn 70 [[D.list 1 l6]])]) fun r9 => bindB (resB 1 false 1 r9 0 0) fun b10 => some ([(false, [RL.d (D.bool !b10)])])) (some ([(false, [RL.d (D.bool false)])]))) (some ([(false, [RL.d (D.bool false)])])) := (show C (k + 1) 19 [AV.d (D.list 3 a0), AV.agg [AV.d (D.list 1 a1_0), AV.d (D.list 2 a1_1)]] = evFnK P hs (C k) 19 k Try.f19 [AV.d (D.list 3 a0), AV.agg [AV.d (D.list 1 a1_0), AV.d (D.list 2 a1_1)]] by kernel_rfl).trans (F19.eq k (C k) a0 a1_0 a1_1)
noncomputable def F20.L4 (k : Nat) (call : CallF)  (n : Nat) (v0 : Ovi.Rows) (v1 : Ovi.Rows) (v2 : Int) : Option Res := loopFn P hs call 20 k Try.f20 [1, 1, 0, 1, 0] [] n [(0, AV.d (D.list 3 v0)), (1, AV.d (D.list 3 v1)), (5, AV.d (D.int IntKind.i64 v2))] []
theorem F20.L4.zero (k : Nat) (call : CallF)  (v0 : Ovi.Rows) (v1 : Ovi.Rows) (v2 : Int) : F20.L4 k call  0 v0 v1 v2 = none := by kernel_rfl
theorem F20.L4.succ (k : Nat) (call : CallF)  (n : Nat) (v0 : Ovi.Rows) (v1 : Ovi.Rows) (v2 : Int) : F20.L4 k call  (n + 1) v0 v1 v2 = ite' (decide (v2 < (↑(List.length v0) : Int))) (ite' (inR v2 (List.length v0)) (bindS (cellS v0 v2.toNat 0) fun s8 => bindI (cellI IntKind.i64 v0 v2.toNat 1) fun n9 => bindB (cellB v0 v2.toNat 2) fun b10 => ite' (inR v2 (List.length v1)) (bindS (cellS v1 v2.toNat 0) fun s11 => bindI (cellI IntKind.i64 v1 v2.toNat 1) fun n12 => bindB (cellB v1 v2.toNat 2) fun b13 => bindR (call 72 [AV.agg [AV.d (D.str s8), AV.d (D.int IntKind.i64 n9), AV.d (D.bool b10)], AV.agg [AV.d (D.str s11), AV.d (D.int IntKind.i64 n12), AV.d (D.bool b13)]]) fun r14 => bindB (resB 1 false 1 r14 0 0) fun b15 => ite' (!b15) (some ([(false, [RL.d (D.bool false)])])) (F20.L4 k call  (n) (v0) (v1) (IntKind.i64.wrap (v2 + (1 : Int))))) (none)) (none)) (some ([(false, [RL.d (D.bool true)])])) := by kernel_rfl
theorem F20.eq (k : Nat) (call : CallF) (a0 : Ovi.Rows) (a1 : Ovi.Rows) : evFnK P hs call (20 : FuncId) k Try.f20 [AV.d (D.list 3 a0), AV.d (D.list 3 a1)] = ite' ((↑(List.length a0) : Int) != (↑(List.length a1) : Int)) (some ([(false, [RL.d (D.bool false)])])) (F20.L4 k call  (k) (a0) (a1) ((0 : Int))) := by kernel_rfl
theorem F20.run (k : Nat) (a0 : Ovi.Rows) (a1 : Ovi.Rows) : C (k + 1) 20 [AV.d (D.list 3 a0), AV.d (D.list 3 a1)] = ite' ((↑(List.length a0) : Int) != (↑(List.length a1) : Int)) (some ([(false, [RL.d (D.bool false)])])) (F20.L4 k (C k)  (k) (a0) (a1) ((0 : Int))) := (show C (k + 1) 20 [AV.d (D.list 3 a0), AV.d (D.list 3 a1)] = evFnK P hs (C k) 20 k Try.f20 [AV.d (D.list 3 a0), AV.d (D.list 3 a1)] by kernel_rfl).trans (F20.eq k (C k) a0 a1)
theorem F21.eq (k : Nat) (call : CallF) (a0_0 : Ovi.Rows) (a0_1 : Ovi.Rows) (a0_2 : Int) (a0_3 : Int) (a1 : Int) : evFnK P hs call (21 : FuncId) k Try.f21 [AV.agg [AV.d (D.list 1 a0_0), AV.d (D.list 2 a0_1), AV.d (D.int IntKind.i64 a0_2), AV.d (D.int IntKind.i64 a0_3)], AV.d (D.int IntKind.i64 a1)] = bindR (call 11 [AV.agg [AV.d (D.list 1 a0_0), AV.d (D.list 2 a0_1)], AV.d (D.int IntKind.i64 a1)]) fun r7 => bindI (resI IntKind.i64 1 false 1 r7 0 0) fun n8 => ite' (decide (n8 < (0 : Int))) (some ([(false, [RL.d (D.int IntKind.i64 (-1 : Int))])])) (some ([(false, [RL.d (D.int IntKind.i64 n8)])])) := by kernel_rfl
theorem F21.run (k : Nat) (a0_0 : Ovi.Rows) (a0_1 : Ovi.Rows) (a0_2 : Int) (a0_3 : Int) (a1 : Int) : C (k + 1) 21 [AV.agg [AV.d (D.list 1 a0_0), AV.d (D.list 2 a0_1), AV.d (D.int IntKind.i64 a0_2), AV.d (D.int IntKind.i64 a0_3)], AV.d (D.int IntKind.i64 a1)] = bindR ((C k) 11 [AV.agg [AV.d (D.list 1 a0_0), AV.d (D.list 2 a0_1)], AV.d (D.int IntKind.i64 a1)]) fun r7 => bindI (resI IntKind.i64 1 false 1 r7 0 0) fun n8 => ite' (decide (n8 < (0 : Int))) (some ([(false, [RL.d (D.int IntKind.i64 (-1 : Int))])])) (some ([(false, [RL.d (D.int IntKind.i64 n8)])])) := (show C (k + 1) 21 [AV.agg [AV.d (D.list 1 a0_0), AV.d (D.list 2 a0_1), AV.d (D.int IntKind.i64 a0_2), AV.d (D.int IntKind.i64 a0_3)], AV.d (D.int IntKind.i64 a1)] = evFnK P hs (C k) 21 k Try.f21 [AV.agg [AV.d (D.list 1 a0_0), AV.d (D.list 2 a0_1), AV.d (D.int IntKind.i64 a0_2), AV.d (D.int IntKind.i64 a0_3)], AV.d (D.int IntKind.i64 a1)] by kernel_rfl).trans (F21.eq k (C k) a0_0 a0_1 a0_2 a0_3 a1)
theorem F22.eq (k : Nat) (call : CallF) (a0 : Ovi.Rows) (a1_0 : Ovi.Rows) (a1_1 : Ovi.Rows) (a1_2 : Int) (a1_3 : Int) : evFnK P hs call (22 : FuncId) k Try.f22 [AV.d (D.list 3 a0), AV.agg [AV.d (D.list 1 a1_0), AV.d (D.list 2 a1_1), AV.d (D.int IntKind.i64 a1_2), AV.d (D.int IntKind.i64 a1_3)]] = bindR (call 62 [AV.d (D.list 2 a1_1)]) fun r7 => bindL (resL 1 1 false 1 r7 0 0) fun l8 => bindR (call 17 [AV.d (D.list 3 a0), AV.agg [AV.d (D.list 1 a1_0), AV.d (D.list 2 a1_1)]]) fun r9 => bindB (resB 1 false 1 r9 0 0) fun b10 => ite' (b10) (bindR (call 64 [AV.d (D.list 1 l8), AV.d (D.int IntKind.i64 a1_2)]) fun r11 => bindB (resB 1 false 1 r11 0 0) fun b12 => ite' (b12) (bindR (call 64 [AV.d (D.list 1 l8), AV.d (D.int IntKind.i64 a1_3)]) fun r13 => bindB (resB 1 false 1 r13 0 0) fun b14 => ite' (b14) (some ([(false, [RL.d (D.bool (a1_2 != a1_3))])])) (some ([(false, [RL.d (D.bool false)])]))) (some ([(false, [RL.d (D.bool false)])]))) (some ([(false, [RL.d (D.bool false)])])) := by kernel_rfl
theorem F22.run (k : Nat) (a0 : Ovi.Rows) (a1_0 : Ovi.Rows) (a1_1 : Ovi.Rows) (a1_2 : Int) (a1_3 : Int) : C (k + 1) 22 [AV.d (D.list 3 a0), AV.agg [AV.d (D.list 1 a1_0), AV.d (D.list 2 a1_1), AV.d (D.int IntKind.i64 a1_2), AV.d (D.int IntKind.i64 a1_3)]] = bindR ((C k) 62 [AV.d (D.list 2 a1_1)]) fun r7 => bindL (resL 1 1 false 1 r7 0 0) fun l8 => bindR ((C k) 17 [AV.d (D.list 3 a0), AV.agg [AV.d (D.list 1 a1_0), AV.d (D.list 2 a1_1)]]) fun r9 => bindB (resB 1 false 1 r9 0 0) fun b10 => ite' (b10) (bindR ((C k) 64 [AV.d (D.list 1 l8), AV.d (D.int IntKind.i64 a1_2)]) fun r11 => bindB (resB 1 false 1 r11 0 0) fun b12 => ite' (b12) (bindR ((C k) 64 [AV.d (D.list 1 l8), AV.d (D.int IntKind.i64 a1_3)]) fun r13 => bindB (resB 1 false 1 r13 0 0) fun b14 => ite' (b14) (some ([(false, [RL.d (D.bool (a1_2 != a1_3))])])) (some ([(false, [RL.d (D.bool false)])]))) (some ([(false, [RL.d (D.bool false)])]))) (some ([(false, [RL.d (D.bool false)])])) := (show C (k + 1) 22 [AV.d (D.list 3 a0), AV.agg [AV.d (D.list 1 a1_0), AV.d (D.list 2 a1_1), AV.d (D.int IntKind.i64 a1_2), AV.d (D.int IntKind.i64 a1_3)]] = evFnK P hs (C k) 22 k Try.f22 [AV.d (D.list 3 a0), AV.agg [AV.d (D.list 1 a1_0), AV.d (D.list 2 a1_1), AV.d (D.int IntKind.i64 a1_2), AV.d (D.int IntKind.i64 a1_3)]] by kernel_rfl).trans (F22.eq k (C k) a0 a1_0 a1_1 a1_2 a1_3)
theorem F23.eq (k : Nat) (call : CallF) (a0_0 : Ovi.Rows) (a0_1 : Ovi.Rows) (a0_2 : Int) (a0_3 : Int) : evFnK P hs call (23 : FuncId) k Try.f23 [AV.agg [AV.d (D.list 1 a0_0), AV.d (D.list 2 a0_1), AV.d (D.int IntKind.i64 a0_2), AV.d (D.int IntKind.i64 a0_3)]] = bindR (call 13 [AV.agg [AV.d (D.list 1 a0_0), AV.d (D.list 2 a0_1)]]) fun r6 => bindL (resO 3 1 1 true 2 r6 0 0) fun l7 => bindL (resO 95 2 1 true 2 r6 0 1) fun l8 => some ([(true, [RL.row 3 1 l7, RL.row 95 2 l8, RL.d (D.int IntKind.i64 a0_2), RL.d (D.int IntKind.i64 a0_3)])]) := by kernel_rfl
theorem F23.run (k : Nat) (a0_0 : Ovi.Rows) (a0_1 : Ovi.Rows) (a0_2 : Int) (a0_3 : Int) : C (k + 1) 23 [AV.agg [AV.d (D.list 1 a0_0), AV.d (D.list 2 a0_1), AV.d (D.int IntKind.i64 a0_2), AV.d (D.int IntKind.i64 a0_3)]] = bindR ((C k) 13 [AV.agg [AV.d (D.list 1 a0_0), AV.d (D.list 2 a0_1)]]) fun r6 => bindL (resO 3 1 1 true 2 r6 0 0) fun l7 => bindL (resO 95 2 1 true 2 r6 0 1) fun l8 => some ([(true, [RL.row 3 1 l7, RL.row 95 2 l8, RL.d (D.int IntKind.i64 a0_2), RL.d (D.int IntKind.i64 a0_3)])]) := (show C (k + 1) 23 [AV.agg [AV.d (D.list 1 a0_0), AV.d (D.list 2 a0_1), AV.d (D.int IntKind.i64 a0_2), AV.d (D.int IntKind.i64 a0_3)]] = evFnK P hs (C k) 23 k Try.f23 [AV.agg [AV.d (D.list 1 a0_0), AV.d (D.list 2 a0_1), AV.d (D.int IntKind.i64 a0_2), AV.d (D.int IntKind.i64 a0_3)]] by kernel_rfl).trans (F23.eq k (C k) a0_0 a0_1 a0_2 a0_3)
theorem F24.eq (k : Nat) (call : CallF) (a0 : Ovi.Rows) (a1_0 : Ovi.Rows) (a1_1 : Ovi.Rows) (a1_2 : Int) (a1_3 : Int) : evFnK P hs call (24 : FuncId) k Try.f24 [AV.d (D.list 3 a0), AV.agg [AV.d (D.list 1 a1_0), AV.d (D.list 2 a1_1), AV.d (D.int IntKind.i64 a1_2), AV.d (D.int IntKind.i64 a1_3)]] = bindR (call 67 [AV.d (D.list 2 a1_1)]) fun r7 => bindL (resO 3 1 1 false 1 r7 0 0) fun l8 => bindR (call 19 [AV.d (D.list 3 a0), AV.agg [AV.d (D.list 1 a1_0), AV.d (D.list 2 a1_1)]]) fun r9 => bindB (resB 1 false 1 r9 0 0) fun b10 => ite' (b10) (ite' (a1_2 != a1_3) (bindR (call 71 [AV.d (D.list 1 l8), AV.d (D.int IntKind.i64 a1_2)]) fun r11 => bindB (resB 1 false 1 r11 0 0) fun b12 => ite' (b12) (bindR (call 71 [AV.d (D.list 1 l8), AV.d (D.int IntKind.i64 a1_3)]) fun r13 => bindB (resB 1 false 1 r13 0 0) fun b14 => some ([(false, [RL.d (D.bool b14)])])) (some ([(false, [RL.d (D.bool false)])]))) (some ([(false, [RL.d (D.bool false)])]))) (some ([(false, [RL.d (D.bool false)])])) := by kernel_rfl
theorem F24.run (k : Nat) (a0 : Ovi.Rows) (a1_0 : Ovi.Rows) (a1_1 : Ovi.Rows) (a1_2 : Int) (a1_3 : Int) : C (k + 1) 24 [AV.d (D.list 3 a0), AV.agg [AV.d (D.list 1 a1_0), AV.d (D.list 2 a1_1), AV.d (D.int IntKind.i64 a1_2), AV.d (D.int IntKind.i64 a1_3)]] = bindR ((C k) 67 [AV.d (D.list 2 a1_1)]) fun r7 => bindL (resO 3 1 1 false 1 r7 0 0) fun l8 => bindR ((C k) 19 [AV.d (D.list 3 a0), AV.agg [AV.d (D.list 1 a1_0), AV.d (D.list 2 a1_1)]]) fun r9 => bindB (resB 1 false 1 r9 0 0) fun b10 => ite' (b10) (ite' (a1_2 != a1_3) (bindR ((C k) 71 [AV.d (D.list 1 l8), AV.d (D.int IntKind.i64 a1_2)]) fun r11 => bindB (resB 1 false 1 r11 0 0) fun b12 => ite' (b12) (bindR ((C k) 71 [AV.d (D.list 1 l8), AV.d (D.int IntKind.i64 a1_3)]) fun r13 => bindB (resB 1 false 1 r13 0 0) fun b14 => some ([(false, [RL.d (D.bool b14)])])) (some ([(false, [RL.d (D.bool false)])]))) (some ([(false, [RL.d (D.bool false)])]))) (some ([(false, [RL.d (D.bool false)])])) := (show C (k + 1) 24 [AV.d (D.list 3 a0), AV.agg [AV.d (D.list 1 a1_0), AV.d (D.list 2 a1_1), AV.d (D.int IntKind.i64 a1_2), AV.d (D.int IntKind.i64 a1_3)]] = evFnK P hs (C k) 24 k Try.f24 [AV.d (D.list 3 a0), AV.agg [AV.d (D.list 1 a1_0), AV.d (D.list 2 a1_1), AV.d (D.int IntKind.i64 a1_2), AV.d (D.int IntKind.i64 a1_3)]] by kernel_rfl).trans (F24.eq k (C k) a0 a1_0 a1_1 a1_2 a1_3)
theorem F25.eq (k : Nat) (call : CallF) (a0_0 : Ovi.Rows) (a0_1 : Ovi.Rows) (a0_2 : Int) (a0_3 : Int) (a1_0 : Ovi.Rows) (a1_1 : Ovi.Rows) (a1_2 : Int) (a1_3 : Int) : evFnK P hs call (25 : FuncId) k Try.f25 [AV.agg [AV.d (D.list 1 a0_0), AV.d (D.list 2 a0_1), AV.d (D.int IntKind.i64 a0_2), AV.d (D.int IntKind.i64 a0_3)], AV.agg [AV.d (D.list 1 a1_0), AV.d (D.list 2 a1_1), AV.d (D.int IntKind.i64 a1_2), AV.d (D.int IntKind.i64 a1_3)]] = bindR (call 15 [AV.agg [AV.d (D.list 1 a0_0), AV.d (D.list 2 a0_1)], AV.agg [AV.d (D.list 1 a1_0), AV.d (D.list 2 a1_1)]]) fun r10 => bindB (resB 1 false 1 r10 0 0) fun b11 => ite' (!b11) (some ([(false, [RL.d (D.bool false)])])) (ite' (a0_2 != a1_2) (some ([(false, [RL.d (D.bool false)])])) (ite' (a0_3 != a1_3) (some ([(false, [RL.d (D.bool false)])])) (some ([(false, [RL.d (D.bool true)])])))) := by kernel_rfl
theorem F25.run (k : Nat) (a0_0 : Ovi.Rows) (a0_1 : Ovi.Rows) (a0_2 : Int) (a0_3 : Int) (a1_0 : Ovi.Rows) (a1_1 : Ovi.Rows) (a1_2 : Int) (a1_3 : Int) : C (k + 1) 25 [AV.agg [AV.d (D.list 1 a0_0), AV.d (D.list 2 a0_1), AV.d (D.int IntKind.i64 a0_2), AV.d (D.int IntKind.i64 a0_3)], AV.agg [AV.d (D.list 1 a1_0), AV.d (D.list 2 a1_1), AV.d (D.int IntKind.i64 a1_2), AV.d (D.int IntKind.i64 a1_3)]] = bindR ((C k) 15 [AV.agg [AV.d (D.list 1 a0_0), AV.d (D.list 2 a0_1)], AV.agg [AV.d (D.list 1 a1_0), AV.d (D.list 2 a1_1)]]) fun r10 => bindB (resB 1 false 1 r10 0 0) fun b11 => ite' (!b11) (some ([(false, [RL.d (D.bool false)])])) (ite' (a0_2 != a1_2) (some ([(false, [RL.d (D.bool false)])])) (ite' (a0_3 != a1_3) (some ([(false, [RL.d (D.bool false)])])) (some ([(false, [RL.d (D.bool true)])])))) := (show C (k + 1) 25 [AV.agg [AV.d (D.list 1 a0_0), AV.d (D.list 2 a0_1), AV.d (D.int IntKind.i64 a0_2), AV.d (D.int IntKind.i64 a0_3)], AV.agg [AV.d (D.list 1 a1_0), AV.d (D.list 2 a1_1), AV.d (D.int IntKind.i64 a1_2), AV.d (D.int IntKind.i64 a1_3)]] = evFnK P hs (C k) 25 k Try.f25 [AV.agg [AV.d (D.list 1 a0_0), AV.d (D.list 2 a0_1), AV.d (D.int IntKind.i64 a0_2), AV.d (D.int IntKind.i64 a0_3)], AV.agg [AV.d (D.list 1 a1_0), AV.d (D.list 2 a1_1), AV.d (D.int IntKind.i64 a1_2), AV.d (D.int IntKind.i64 a1_3)]] by kernel_rfl).trans (F25.eq k (C k) a0_0 a0_1 a0_2 a0_3 a1_0 a1_1 a1_2 a1_3)
noncomputable def F29.L3 (k : Nat) (call : CallF)  (n : Nat) (v0 : Ovi.Rows) (v1 : Int) (v2 : Ovi.Rows) : Option Res := loopFn P hs call 29 k Try.f29 [1, 1, 0, 1, 0] [] n [(0, AV.d (D.list 1 v0)), (3, AV.own 100003 0), (4, AV.d (D.int IntKind.i64 v1))] [(100003, Blk.arr 3 1 0 v2)]
theorem F29.L3.zero (k : Nat) (call : CallF)  (v0 : Ovi.Rows) (v1 : Int) (v2 : Ovi.Rows) : F29.L3 k call  0 v0 v1 v2 = none := by kernel_rfl
theorem F29.L3.succ (k : Nat) (call : CallF)  (n : Nat) (v0 : Ovi.Rows) (v1 : Int) (v2 : Ovi.Rows) : F29.L3 k call  (n + 1) v0 v1 v2 = ite' (decide (v1 < (↑(List.length v0) : Int))) (ite' (inR v1 (List.length v0)) (bindI (cellI IntKind.i64 v0 v1.toNat 0) fun n7 => ite' (inR v1 (List.length v2)) (F29.L3 k call  (n) (v0) (IntKind.i64.wrap (v1 + (1 : Int))) (rowsSet v2 v1.toNat 0 [D.int IntKind.i64 n7])) (none)) (none)) (some ([(false, [RL.row 3 1 v2])])) := by kernel_rfl
theorem F29.eq (k : Nat) (call : CallF) (a0 : Ovi.Rows) : evFnK P hs call (29 : FuncId) k Try.f29 [AV.d (D.list 1 a0)] = ite' ((↑(List.length a0) : Int) == (↑(List.length a0) : Int)) (ite' (inM (↑(List.length a0) : Int)) (F29.L3 k call  (k) (a0) ((0 : Int)) (rowsOf (↑(List.length a0) : Int) [D.int IntKind.i64 (0 : Int)])) (none)) (none) := by kernel_rfl
theorem F29.run (k : Nat) (a0 : Ovi.Rows) : C (k + 1) 29 [AV.d (D.list 1 a0)] = ite' ((↑(List.length a0) : Int) == (↑(List.length a0) : Int)) (ite' (inM (↑(List.length a0) : Int)) (F29.L3 k (C k)  (k) (a0) ((0 : Int)) (rowsOf (↑(List.length a0) : Int) [D.int IntKind.i64 (0 : Int)])) (none)) (none) := (show C (k + 1) 29 [AV.d (D.list 1 a0)] = evFnK P hs (C k) 29 k Try.f29 [AV.d (D.list 1 a0)] by kernel_rfl).trans (F29.eq k (C k) a0)
noncomputable def F32.L4 (k : Nat) (call : CallF)  (n : Nat) (v0 : Ovi.Rows) (v1 : Ovi.Rows) (v2 : Int) : Option Res := loopFn P hs call 32 k Try.f32 [1, 1, 0, 1, 0] [] n [(0, AV.d (D.list 1 v0)), (1, AV.d (D.list 1 v1)), (5, AV.d (D.int IntKind.i64 v2))] []
theorem F32.L4.zero (k : Nat) (call : CallF)  (v0 : Ovi.Rows) (v1 : Ovi.Rows) (v2 : Int) : F32.L4 k call  0 v0 v1 v2 = none := by kernel_rfl
theorem F32.L4.succ (k : Nat) (call : CallF)  (n : Nat) (v0 : Ovi.Rows) (v1 : Ovi.Rows) (v2 : Int) : F32.L4 k call  (n + 1) v0 v1 v2 = ite' (decide (v2 < (↑(List.length v0) : Int))) (ite' (inR v2 (List.length v0)) (bindI (cellI IntKind.i64 v0 v2.toNat 0) fun n8 => ite' (inR v2 (List.length v1)) (bindI (cellI IntKind.i64 v1 v2.toNat 0) fun n9 => ite' (n8 != n9) (some ([(false, [RL.d (D.bool false)])])) (F32.L4 k call  (n) (v0) (v1) (IntKind.i64.wrap (v2 + (1 : Int))))) (none)) (none)) (some ([(false, [RL.d (D.bool true)])])) := by kernel_rfl
theorem F32.eq (k : Nat) (call : CallF) (a0 : Ovi.Rows) (a1 : Ovi.Rows) : evFnK P hs call (32 : FuncId) k Try.f32 [AV.d (D.list 1 a0), AV.d (D.list 1 a1)] = ite' ((↑(List.length a0) : Int) != (↑(List.length a1) : Int)) (some ([(false, [RL.d (D.bool false)])])) (F32.L4 k call  (k) (a0) (a1) ((0 : Int))) := by kernel_rfl
theorem F32.run (k : Nat) (a0 : Ovi.Rows) (a1 : Ovi.Rows) : C (k + 1) 32 [AV.d (D.list 1 a0), AV.d (D.list 1 a1)] = ite' ((↑(List.length a0) : Int) != (↑(List.length a1) : Int)) (some ([(false, [RL.d (D.bool false)])])) (F32.L4 k (C k)  (k) (a0) (a1) ((0 : Int))) := (show C (k + 1) 32 [AV.d (D.list 1 a0), AV.d (D.list 1 a1)] = evFnK P hs (C k) 32 k Try.f32 [AV.d (D.list 1 a0), AV.d (D.list 1 a1)] by kernel_rfl).trans (F32.eq k (C k) a0 a1)
theorem F52.eq (k : Nat) (call : CallF) (a0 : Ovi.Rows) (a1 : Int) : evFnK P hs call (52 : FuncId) k Try.f52 [AV.d (D.list 1 a0), AV.d (D.int IntKind.i64 a1)] = ite' (decide (IntKind.i64.wrap (a1 - (↑(List.length a0) : Int)) < (0 : Int))) (some ([(false, [RL.d (D.int IntKind.i64 (-1 : Int))])])) (some ([(false, [RL.d (D.int IntKind.i64 (IntKind.i64.wrap (a1 - (↑(List.length a0) : Int))))])])) := by kernel_rfl
theorem F52.run (k : Nat) (a0 : Ovi.Rows) (a1 : Int) : C (k + 1) 52 [AV.d (D.list 1 a0), AV.d (D.int IntKind.i64 a1)] = ite' (decide (IntKind.i64.wrap (a1 - (↑(List.length a0) : Int)) < (0 : Int))) (some ([(false, [RL.d (D.int IntKind.i64 (-1 : Int))])])) (some ([(false, [RL.d (D.int IntKind.i64 (IntKind.i64.wrap (a1 - (↑(List.length a0) : Int))))])])) := (show C (k + 1) 52 [AV.d (D.list 1 a0), AV.d (D.int IntKind.i64 a1)] = evFnK P hs (C k) 52 k Try.f52 [AV.d (D.list 1 a0), AV.d (D.int IntKind.i64 a1)] by kernel_rfl).trans (F52.eq k (C k) a0 a1)
noncomputable def F53.L5 (k : Nat) (call : CallF)  (n : Nat) (v0 : Ovi.Rows) (v1 : Int) (v2 : Int) : Option Res := loopFn P hs call 53 k Try.f53 [1, 1, 1, 0, 1, 0] [] n [(0, AV.d (D.list 2 v0)), (1, AV.d (D.int IntKind.i64 v1)), (5, AV.d (D.int IntKind.i64 v2))] []
theorem F53.L5.zero (k : Nat) (call : CallF)  (v0 : Ovi.Rows) (v1 : Int) (v2 : Int) : F53.L5 k call  0 v0 v1 v2 = none := by kernel_rfl
theorem F53.L5.succ (k : Nat) (call : CallF)  (n : Nat) (v0 : Ovi.Rows) (v1 : Int) (v2 : Int) : F53.L5 k call  (n + 1) v0 v1 v2 = ite' (decide (v2 < (↑(List.length v0) : Int))) (ite' (inR v2 (List.length v0)) (bindI (cellI IntKind.i64 v0 v2.toNat 0) fun n8 => bindL (cellL 1 v0 v2.toNat 1) fun l9 => bindR (call 106 [AV.agg [AV.d (D.int IntKind.i64 n8), AV.d (D.list 1 l9)], AV.d (D.int IntKind.i64 v1)]) fun r10 => bindI (resI IntKind.i64 1 false 1 r10 0 0) fun n11 => ite' (decide (n11 < (0 : Int))) (some ([(false, [RL.d (D.int IntKind.i64 (-1 : Int))])])) (F53.L5 k call  (n) (v0) (n11) (IntKind.i64.wrap (v2 + (1 : Int))))) (none)) (some ([(false, [RL.d (D.int IntKind.i64 v1)])])) := by kernel_rfl
theorem F53.eq (k : Nat) (call : CallF) (a0 : Ovi.Rows) (a1 : Int) : evFnK P hs call (53 : FuncId) k Try.f53 [AV.d (D.list 2 a0), AV.d (D.int IntKind.i64 a1)] = ite' (decide (IntKind.i64.wrap (a1 - (↑(List.length a0) : Int)) < (0 : Int))) (some ([(false, [RL.d (D.int IntKind.i64 (-1 : Int))])])) (F53.L5 k call  (k) (a0) (IntKind.i64.wrap (a1 - (↑(List.length a0) : Int))) ((0 : Int))) := by kernel_rfl
theorem F53.run (k : Nat) (a0 : Ovi.Rows) (a1 : Int) : C (k + 1) 53 [AV.d (D.list 2 a0), AV.d (D.int IntKind.i64 a1)] = ite' (decide (IntKind.i64.wrap (a1 - (↑(List.length a0) : Int)) < (0 : Int))) (some ([(false, [RL.d (D.int IntKind.i64 (-1 : Int))])])) (F53.L5 k (C k)  (k) (a0) (IntKind.i64.wrap (a1 - (↑(List.length a0) : Int))) ((0 : Int))) := (show C (k + 1) 53 [AV.d (D.list 2 a0), AV.d (D.int IntKind.i64 a1)] = evFnK P hs (C k) 53 k Try.f53 [AV.d (D.list 2 a0), AV.d (D.int IntKind.i64 a1)] by kernel_rfl).trans (F53.eq k (C k) a0 a1)
noncomputable def F56.L3 (k : Nat) (call : CallF)  (n : Nat) (v0 : Ovi.Rows) (v1 : Int) (v2 : Ovi.Rows) : Option Res := loopFn P hs call 56 k Try.f56 [1, 1, 0, 1, 0] [] n [(0, AV.d (D.list 2 v0)), (3, AV.own 100003 0), (4, AV.d (D.int IntKind.i64 v1))] [(100003, Blk.arr 95 2 0 v2)]
theorem F56.L3.zero (k : Nat) (call : CallF)  (v0 : Ovi.Rows) (v1 : Int) (v2 : Ovi.Rows) : F56.L3 k call  0 v0 v1 v2 = none := by kernel_rfl
theorem F56.L3.succ (k : Nat) (call : CallF)  (n : Nat) (v0 : Ovi.Rows) (v1 : Int) (v2 : Ovi.Rows) : F56.L3 k call  (n + 1) v0 v1 v2 = ite' (decide (v1 < (↑(List.length v0) : Int))) (ite' (inR v1 (List.length v0)) (bindI (cellI IntKind.i64 v0 v1.toNat 0) fun n7 => bindL (cellL 1 v0 v1.toNat 1) fun l8 => bindR (call 107 [AV.agg [AV.d (D.int IntKind.i64 n7), AV.d (D.list 1 l8)]]) fun r9 => bindI (resI IntKind.i64 1 true 2 r9 0 0) fun n10 => bindL (resO 3 1 1 true 2 r9 0 1) fun l11 => ite' (inR v1 (List.length v2)) (F56.L3 k call  (n) (v0) (IntKind.i64.wrap (v1 + (1 : Int))) (rowsSet v2 v1.toNat 0 [D.int IntKind.i64 n10, D.list 1 l11])) (none)) (none)) (some ([(false, [RL.row 95 2 v2])])) := by kernel_rfl
theorem F56.eq (k : Nat) (call : CallF) (a0 : Ovi.Rows) : evFnK P hs call (56 : FuncId) k Try.f56 [AV.d (D.list 2 a0)] = ite' ((↑(List.length a0) : Int) == (↑(List.length a0) : Int)) (ite' (inM (↑(List.length a0) : Int)) (F56.L3 k call  (k) (a0) ((0 : Int)) (rowsOf (↑(List.length a0) : Int) [D.int IntKind.i64 (0 : Int), D.list 1 []])) (none)) (none) := by kernel_rfl
theorem F56.run (k : Nat) (a0 : Ovi.Rows) : C (k + 1) 56 [AV.d (D.list 2 a0)] = ite' ((↑(List.length a0) : Int) == (↑(List.length a0) : Int)) (ite' (inM (↑(List.length a0) : Int)) (F56.L3 k (C k)  (k) (a0) ((0 : Int)) (rowsOf (↑(List.length a0) : Int) [D.int IntKind.i64 (0 : Int), D.list 1 []])) (none)) (none) := (show C (k + 1) 56 [AV.d (D.list 2 a0)] = evFnK P hs (C k) 56 k Try.f56 [AV.d (D.list 2 a0)] by kernel_rfl).trans (F56.eq k (C k) a0)
noncomputable def F60.L4 (k : Nat) (call : CallF)  (n : Nat) (v0 : Ovi.Rows) (v1 : Ovi.Rows) (v2 : Int) : Option Res := loopFn P hs call 60 k Try.f60 [1, 1, 0, 1, 0] [] n [(0, AV.d (D.list 2 v0)), (1, AV.d (D.list 2 v1)), (5, AV.d (D.int IntKind.i64 v2))] []
theorem F60.L4.zero (k : Nat) (call : CallF)  (v0 : Ovi.Rows) (v1 : Ovi.Rows) (v2 : Int) : F60.L4 k call  0 v0 v1 v2 = none := by kernel_rfl
theorem F60.L4.succ (k : Nat) (call : CallF)  (n : Nat) (v0 : Ovi.Rows) (v1 : Ovi.Rows) (v2 : Int) : F60.L4 k call  (n + 1) v0 v1 v2 = ite' (decide (v2 < (↑(List.length v0) : Int))) (ite' (inR v2 (List.length v0)) (bindI (cellI IntKind.i64 v0 v2.toNat 0) fun n8 => bindL (cellL 1 v0 v2.toNat 1) fun l9 => ite' (inR v2 (List.length v1)) (bindI (cellI IntKind.i64 v1 v2.toNat 0) fun n10 => bindL (cellL 1 v1 v2.toNat 1) fun l11 => bindR (call 108 [AV.agg [AV.d (D.int IntKind.i64 n8), AV.d (D.list 1 l9)], AV.agg [AV.d (D.int IntKind.i64 n10), AV.d (D.list 1 l11)]]) fun r12 => bindB (resB 1 false 1 r12 0 0) fun b13 => ite' (!b13) (some ([(false, [RL.d (D.bool false)])])) (F60.L4 k call  (n) (v0) (v1) (IntKind.i64.wrap (v2 + (1 : Int))))) (none)) (none)) (some ([(false, [RL.d (D.bool true)])])) := by kernel_rfl
theorem F60.eq (k : Nat) (call : CallF) (a0 : Ovi.Rows) (a1 : Ovi.Rows) : evFnK P hs call (60 : FuncId) k Try.f60 [AV.d (D.list 2 a0), AV.d (D.list 2 a1)] = ite' ((↑(List.length a0) : Int) != (↑(List.length a1) : Int)) (some ([(false, [RL.d (D.bool false)])])) (F60.L4 k call  (k) (a0) (a1) ((0 : Int))) := by kernel_rfl
theorem F60.run (k : Nat) (a0 : Ovi.Rows) (a1 : Ovi.Rows) : C (k + 1) 60 [AV.d (D.list 2 a0), AV.d (D.list 2 a1)] = ite' ((↑(List.length a0) : Int) != (↑(List.length a1) : Int)) (some ([(false, [RL.d (D.bool false)])])) (F60.L4 k (C k)  (k) (a0) (a1) ((0 : Int))) := (show C (k + 1) 60 [AV.d (D.list 2 a0), AV.d (D.list 2 a1)] = evFnK P hs (C k) 60 k Try.f60 [AV.d (D.list 2 a0), AV.d (D.list 2 a1)] by kernel_rfl).trans (F60.eq k (C k) a0 a1)
theorem F61.eq (k : Nat) (call : CallF) (a0_0 : List UInt8) (a0_1 : Int) (a0_2 : Bool) (a1 : Int) : evFnK P hs call (61 : FuncId) k Try.f61 [AV.agg [AV.d (D.str a0_0), AV.d (D.int IntKind.i64 a0_1), AV.d (D.bool a0_2)], AV.d (D.int IntKind.i64 a1)] = ite' (decide (IntKind.i64.wrap (a1 - (↑a0_0.length : Int)) < (0 : Int))) (some ([(false, [RL.d (D.int IntKind.i64 (-1 : Int))])])) (some ([(false, [RL.d (D.int IntKind.i64 (IntKind.i64.wrap (a1 - (↑a0_0.length : Int))))])])) := by kernel_rfl
theorem F61.run (k : Nat) (a0_0 : List UInt8) (a0_1 : Int) (a0_2 : Bool) (a1 : Int) : C (k + 1) 61 [AV.agg [AV.d (D.str a0_0), AV.d (D.int IntKind.i64 a0_1), AV.d (D.bool a0_2)], AV.d (D.int IntKind.i64 a1)] = ite' (decide (IntKind.i64.wrap (a1 - (↑a0_0.length : Int)) < (0 : Int))) (some ([(false, [RL.d (D.int IntKind.i64 (-1 : Int))])])) (some ([(false, [RL.d (D.int IntKind.i64 (IntKind.i64.wrap (a1 - (↑a0_0.length : Int))))])])) := (show C (k + 1) 61 [AV.agg [AV.d (D.str a0_0), AV.d (D.int IntKind.i64 a0_1), AV.d (D.bool a0_2)], AV.d (D.int IntKind.i64 a1)] = evFnK P hs (C k) 61 k Try.f61 [AV.agg [AV.d (D.str a0_0), AV.d (D.int IntKind.i64 a0_1), AV.d (D.bool a0_2)], AV.d (D.int IntKind.i64 a1)] by kernel_rfl).trans (F61.eq k (C k) a0_0 a0_1 a0_2 a1)
noncomputable def F62.L3 (k : Nat) (call : CallF)  (n : Nat) (v0 : Ovi.Rows) (v1 : List (List D)) (v2 : Int) : Option Res := loopFn P hs call 62 k Try.f62 [1, 1, 0, 1, 0] [] n [(0, AV.d (D.list 2 v0)), (3, AV.d (D.list 1 v1)), (4, AV.d (D.int IntKind.i64 v2))] []
noncomputable def F62.L6 (k : Nat) (call : CallF) (k3 : Nat) (n : Nat) (v0 : Ovi.Rows) (v1 : List (List D)) (v2 : Int) (v3 : Int) : Option Res := loopFn P hs call 62 k Try.f62 [1, 1, 0, 1, 0, 0, 1, 0, 0, 1, 0] [k3] n [(0, AV.d (D.list 2 v0)), (3, AV.d (D.list 1 v1)), (4, AV.d (D.int IntKind.i64 v2)), (5, AV.d (D.int IntKind.i64 v3))] []
theorem F62.L3.zero (k : Nat) (call : CallF)  (v0 : Ovi.Rows) (v1 : List (List D)) (v2 : Int) : F62.L3 k call  0 v0 v1 v2 = none := by kernel_rfl
theorem F62.L3.succ (k : Nat) (call : CallF)  (n : Nat) (v0 : Ovi.Rows) (v1 : List (List D)) (v2 : Int) : F62.L3 k call  (n + 1) v0 v1 v2 = ite' (decide (v2 < (↑(List.length v0) : Int))) (F62.L6 k call n (k) (v0) (v1) (v2) ((0 : Int))) (some ([(false, [RL.d (D.list 1 v1)])])) := by kernel_rfl
theorem F62.L6.zero (k : Nat) (call : CallF) (k3 : Nat) (v0 : Ovi.Rows) (v1 : List (List D)) (v2 : Int) (v3 : Int) : F62.L6 k call k3 0 v0 v1 v2 v3 = none := by kernel_rfl
theorem F62.L6.succ (k : Nat) (call : CallF) (k3 : Nat) (n : Nat) (v0 : Ovi.Rows) (v1 : List (List D)) (v2 : Int) (v3 : Int) : F62.L6 k call k3 (n + 1) v0 v1 v2 v3 = ite' (inR v2 (List.length v0)) (bindL (cellL 1 v0 v2.toNat 1) fun l9 => ite' (decide (v3 < (↑(List.length l9) : Int))) (ite' (inR v2 (List.length v0)) (bindL (cellL 1 v0 v2.toNat 1) fun l10 => ite' (inR v3 (List.length l10)) (bindI (cellI IntKind.i64 l10 v3.toNat 0) fun n11 => ite' (decide (n11 ≥ (0 : Int))) (ite' (inR v2 (List.length v0)) (bindL (cellL 1 v0 v2.toNat 1) fun l12 => ite' (inR v3 (List.length l12)) (bindI (cellI IntKind.i64 l12 v3.toNat 0) fun n13 => bindR (call 109 [AV.d (D.list 1 v1), AV.d (D.int IntKind.i64 n13)]) fun r14 => bindL (resL 1 1 false 1 r14 0 0) fun l15 => F62.L6 k call k3 (n) (v0) (l15) (v2) (IntKind.i64.wrap (v3 + (1 : Int)))) (none)) (none)) (F62.L6 k call k3 (n) (v0) (v1) (v2) (IntKind.i64.wrap (v3 + (1 : Int))))) (none)) (none)) (F62.L3 k call  (k3) (v0) (v1) (IntKind.i64.wrap (v2 + (1 : Int))))) (none) := by kernel_rfl
theorem F62.eq (k : Nat) (call : CallF) (a0 : Ovi.Rows) : evFnK P hs call (62 : FuncId) k Try.f62 [AV.d (D.list 2 a0)] = F62.L3 k call  (k) (a0) ([]) ((0 : Int)) := by kernel_rfl
theorem F62.run (k : Nat) (a0 : Ovi.Rows) : C (k + 1) 62 [AV.d (D.list 2 a0)] = F62.L3 k (C k)  (k) (a0) ([]) ((0 : Int)) := (show C (k + 1) 62 [AV.d (D.list 2 a0)] = evFnK P hs (C k) 62 k Try.f62 [AV.d (D.list 2 a0)] by kernel_rfl).trans (F62.eq k (C k) a0)
noncomputable def F63.L4 (k : Nat) (call : CallF)  (n : Nat) (v0 : Int) (v1 : Int) (v2 : Ovi.Rows) : Option Res := loopFn P hs call 63 k Try.f63 [1, 1, 0, 1, 0] [] n [(3, AV.var 192 0), (5, AV.d (D.int IntKind.i64 v0))] [(192, Blk.var [AV.d (D.int IntKind.i64 v1), AV.d (D.list 1 v2)])]
theorem F63.L4.zero (k : Nat) (call : CallF)  (v0 : Int) (v1 : Int) (v2 : Ovi.Rows) : F63.L4 k call  0 v0 v1 v2 = none := by kernel_rfl
theorem F63.L4.succ (k : Nat) (call : CallF)  (n : Nat) (v0 : Int) (v1 : Int) (v2 : Ovi.Rows) : F63.L4 k call  (n + 1) v0 v1 v2 = ite' (decide (v0 < (↑(List.length v2) : Int))) (ite' (inR v0 (List.length v2)) (bindI (cellI IntKind.i64 v2 v0.toNat 0) fun n9 => bindR (call 65 [AV.d (D.int IntKind.i64 n9), AV.d (D.int IntKind.i64 (-10 : Int)), AV.d (D.int IntKind.i64 (4 : Int))]) fun r10 => bindB (resB 1 false 1 r10 0 0) fun b11 => ite' (!b11) (some ([(false, [RL.d (D.bool false)])])) (F63.L4 k call  (n) (IntKind.i64.wrap (v0 + (1 : Int))) (v1) (v2))) (none)) (some ([(false, [RL.d (D.bool true)])])) := by kernel_rfl
theorem F63.eq (k : Nat) (call : CallF) (a0 : Ovi.Rows) (a1_0 : Int) (a1_1 : Ovi.Rows) : evFnK P hs call (63 : FuncId) k Try.f63 [AV.d (D.list 3 a0), AV.agg [AV.d (D.int IntKind.i64 a1_0), AV.d (D.list 1 a1_1)]] = bindR (call 110 [AV.d (D.list 3 a0)]) fun r5 => bindB (resB 1 false 1 r5 0 0) fun b6 => ite' (!b6) (some ([(false, [RL.d (D.bool false)])])) (bindR (call 65 [AV.d (D.int IntKind.i64 a1_0), AV.d (D.int IntKind.i64 (0 : Int)), AV.d (D.int IntKind.i64 (IntKind.i64.wrap ((↑(List.length a0) : Int) - (1 : Int))))]) fun r7 => bindB (resB 1 false 1 r7 0 0) fun b8 => ite' (!b8) (some ([(false, [RL.d (D.bool false)])])) (ite' (inR a1_0 (List.length a0)) (bindI (cellI IntKind.i64 a0 a1_0.toNat 1) fun n9 => ite' ((↑(List.length a1_1) : Int) != n9) (some ([(false, [RL.d (D.bool false)])])) (F63.L4 k call  (k) ((0 : Int)) (a1_0) (a1_1))) (none))) := by kernel_rfl
theorem F63.run (k : Nat) (a0 : Ovi.Rows) (a1_0 : Int) (a1_1 : Ovi.Rows) : C (k + 1) 63 [AV.d (D.list 3 a0), AV.agg [AV.d (D.int IntKind.i64 a1_0), AV.d (D.list 1 a1_1)]] = bindR ((C k) 110 [AV.d (D.list 3 a0)]) fun r5 => bindB (resB 1 false 1 r5 0 0) fun b6 => ite' (!b6) (some ([(false, [RL.d (D.bool false)])])) (bindR ((C k) 65 [AV.d (D.int IntKind.i64 a1_0), AV.d (D.int IntKind.i64 (0 : Int)), AV.d (D.int IntKind.i64 (IntKind.i64.wrap ((↑(List.length a0) : Int) - (1 : Int))))]) fun r7 => bindB (resB 1 false 1 r7 0 0) fun b8 => ite' (!b8) (some ([(false, [RL.d (D.bool false)])])) (ite' (inR a1_0 (List.length a0)) (bindI (cellI IntKind.i64 a0 a1_0.toNat 1) fun n9 => ite' ((↑(List.length a1_1) : Int) != n9) (some ([(false, [RL.d (D.bool false)])])) (F63.L4 k (C k)  (k) ((0 : Int)) (a1_0) (a1_1))) (none))) := (show C (k + 1) 63 [AV.d (D.list 3 a0), AV.agg [AV.d (D.int IntKind.i64 a1_0), AV.d (D.list 1 a1_1)]] = evFnK P hs (C k) 63 k Try.f63 [AV.d (D.list 3 a0), AV.agg [AV.d (D.int IntKind.i64 a1_0), AV.d (D.list 1 a1_1)]] by kernel_rfl).trans (F63.eq k (C k) a0 a1_0 a1_1)
noncomputable def F64.L2 (k : Nat) (call : CallF)  (n : Nat) (v0 : Ovi.Rows) (v1 : Int) (v2 : Int) : Option Res := loopFn P hs call 64 k Try.f64 [1, 0, 1, 0] [] n [(0, AV.d (D.list 1 v0)), (1, AV.d (D.int IntKind.i64 v1)), (5, AV.d (D.int IntKind.i64 v2))] []
theorem F64.L2.zero (k : Nat) (call : CallF)  (v0 : Ovi.Rows) (v1 : Int) (v2 : Int) : F64.L2 k call  0 v0 v1 v2 = none := by kernel_rfl
theorem F64.L2.succ (k : Nat) (call : CallF)  (n : Nat) (v0 : Ovi.Rows) (v1 : Int) (v2 : Int) : F64.L2 k call  (n + 1) v0 v1 v2 = ite' (decide (v2 < (↑(List.length v0) : Int))) (ite' (inR v2 (List.length v0)) (bindI (cellI IntKind.i64 v0 v2.toNat 0) fun n8 => ite' (n8 == v1) (some ([(false, [RL.d (D.bool true)])])) (F64.L2 k call  (n) (v0) (v1) (IntKind.i64.wrap (v2 + (1 : Int))))) (none)) (some ([(false, [RL.d (D.bool false)])])) := by kernel_rfl
theorem F64.eq (k : Nat) (call : CallF) (a0 : Ovi.Rows) (a1 : Int) : evFnK P hs call (64 : FuncId) k Try.f64 [AV.d (D.list 1 a0), AV.d (D.int IntKind.i64 a1)] = F64.L2 k call  (k) (a0) (a1) ((0 : Int)) := by kernel_rfl
theorem F64.run (k : Nat) (a0 : Ovi.Rows) (a1 : Int) : C (k + 1) 64 [AV.d (D.list 1 a0), AV.d (D.int IntKind.i64 a1)] = F64.L2 k (C k)  (k) (a0) (a1) ((0 : Int)) := (show C (k + 1) 64 [AV.d (D.list 1 a0), AV.d (D.int IntKind.i64 a1)] = evFnK P hs (C k) 64 k Try.f64 [AV.d (D.list 1 a0), AV.d (D.int IntKind.i64 a1)] by kernel_rfl).trans (F64.eq k (C k) a0 a1)
theorem F65.eq (k : Nat) (call : CallF) (a0 : Int) (a1 : Int) (a2 : Int) : evFnK P hs call (65 : FuncId) k Try.f65 [AV.d (D.int IntKind.i64 a0), AV.d (D.int IntKind.i64 a1), AV.d (D.int IntKind.i64 a2)] = ite' (decide (a0 ≥ a1)) (some ([(false, [RL.d (D.bool (decide (a0 ≤ a2)))])])) (some ([(false, [RL.d (D.bool false)])])) := by kernel_rfl
theorem F65.run (k : Nat) (a0 : Int) (a1 : Int) (a2 : Int) : C (k + 1) 65 [AV.d (D.int IntKind.i64 a0), AV.d (D.int IntKind.i64 a1), AV.d (D.int IntKind.i64 a2)] = ite' (decide (a0 ≥ a1)) (some ([(false, [RL.d (D.bool (decide (a0 ≤ a2)))])])) (some ([(false, [RL.d (D.bool false)])])) := (show C (k + 1) 65 [AV.d (D.int IntKind.i64 a0), AV.d (D.int IntKind.i64 a1), AV.d (D.int IntKind.i64 a2)] = evFnK P hs (C k) 65 k Try.f65 [AV.d (D.int IntKind.i64 a0), AV.d (D.int IntKind.i64 a1), AV.d (D.int IntKind.i64 a2)] by kernel_rfl).trans (F65.eq k (C k) a0 a1 a2)
theorem F66.eq (k : Nat) (call : CallF) (a0_0 : List UInt8) (a0_1 : Int) (a0_2 : Bool) : evFnK P hs call (66 : FuncId) k Try.f66 [AV.agg [AV.d (D.str a0_0), AV.d (D.int IntKind.i64 a0_1), AV.d (D.bool a0_2)]] = some ([(true, [RL.d (D.str a0_0), RL.d (D.int IntKind.i64 a0_1), RL.d (D.bool a0_2)])]) := by kernel_rfl
theorem F66.run (k : Nat) (a0_0 : List UInt8) (a0_1 : Int) (a0_2 : Bool) : C (k + 1) 66 [AV.agg [AV.d (D.str a0_0), AV.d (D.int IntKind.i64 a0_1), AV.d (D.bool a0_2)]] = some ([(true, [RL.d (D.str a0_0), RL.d (D.int IntKind.i64 a0_1), RL.d (D.bool a0_2)])]) := (show C (k + 1) 66 [AV.agg [AV.d (D.str a0_0), AV.d (D.int IntKind.i64 a0_1), AV.d (D.bool a0_2)]] = evFnK P hs (C k) 66 k Try.f66 [AV.agg [AV.d (D.str a0_0), AV.d (D.int IntKind.i64 a0_1), AV.d (D.bool a0_2)]] by kernel_rfl).trans (F66.eq k (C k) a0_0 a0_1 a0_2)
noncomputable def F67.L3 (k : Nat) (call : CallF)  (n : Nat) (v0 : Ovi.Rows) (v1 : Int) (v2 : Int) (v3 : List (List D)) : Option Res := loopFn P hs call 67 k Try.f67 [1, 1, 0, 1, 0] [] n [(3, AV.own 100003 0), (9, AV.d (D.list 2 v0)), (10, AV.d (D.int IntKind.i64 v1)), (11, AV.d (D.int IntKind.i64 v2))] [(100003, Blk.arr 3 1 0 v3)]
noncomputable def F67.L6 (k : Nat) (call : CallF) (k3 : Nat) (n : Nat) (v0 : Ovi.Rows) (v1 : Int) (v2 : Int) (v3 : Ovi.Rows) (v4 : Int) (v5 : Int) (v6 : List (List D)) : Option Res := loopFn P hs call 67 k Try.f67 [1, 1, 0, 1, 0, 0, 1, 1, 0, 0, 1, 1, 0] [k3] n [(3, AV.own 100003 0), (9, AV.d (D.list 2 v0)), (10, AV.d (D.int IntKind.i64 v1)), (11, AV.d (D.int IntKind.i64 v2)), (16, AV.d (D.list 1 v3)), (17, AV.d (D.int IntKind.i64 v4)), (18, AV.d (D.int IntKind.i64 v5))] [(100003, Blk.arr 3 1 0 v6)]
theorem F67.L3.zero (k : Nat) (call : CallF)  (v0 : Ovi.Rows) (v1 : Int) (v2 : Int) (v3 : List (List D)) : F67.L3 k call  0 v0 v1 v2 v3 = none := by kernel_rfl
theorem F67.L3.succ (k : Nat) (call : CallF)  (n : Nat) (v0 : Ovi.Rows) (v1 : Int) (v2 : Int) (v3 : List (List D)) : F67.L3 k call  (n + 1) v0 v1 v2 v3 = ite' (decide (v2 < v1)) (ite' (inR v2 (List.length v0)) (bindI (cellI IntKind.i64 v0 v2.toNat 0) fun n8 => bindL (cellL 1 v0 v2.toNat 1) fun l9 => F67.L6 k call n (k) (v0) (v1) (v2) (l9) ((↑(List.length l9) : Int)) ((0 : Int)) (v3)) (none)) (bindR (call 111 [AV.var 0 0, AV.d (D.int IntKind.i64 (↑3 : Int)), AV.d (D.list 1 v3)]) fun r8 => bindL (resO 3 1 1 false 1 r8 0 0) fun l9 => bindR (call 112 [AV.var 0 0, AV.d (D.int IntKind.i64 (↑3 : Int)), AV.d (D.list 1 l9)]) fun r10 => bindL (resO 3 1 2 false 1 r10 0 0) fun l11 => some ([(false, [RL.row 3 1 l11])])) := by kernel_rfl
theorem F67.L6.zero (k : Nat) (call : CallF) (k3 : Nat) (v0 : Ovi.Rows) (v1 : Int) (v2 : Int) (v3 : Ovi.Rows) (v4 : Int) (v5 : Int) (v6 : List (List D)) : F67.L6 k call k3 0 v0 v1 v2 v3 v4 v5 v6 = none := by kernel_rfl
theorem F67.L6.succ (k : Nat) (call : CallF) (k3 : Nat) (n : Nat) (v0 : Ovi.Rows) (v1 : Int) (v2 : Int) (v3 : Ovi.Rows) (v4 : Int) (v5 : Int) (v6 : List (List D)) : F67.L6 k call k3 (n + 1) v0 v1 v2 v3 v4 v5 v6 = ite' (decide (v5 < v4)) (ite' (inR v5 (List.length v3)) (bindI (cellI IntKind.i64 v3 v5.toNat 0) fun n12 => ite' (decide (n12 ≥ (0 : Int))) (ite' (fits (v6.length + [[D.int IntKind.i64 n12]].length)) (F67.L6 k call k3 (n) (v0) (v1) (v2) (v3) (v4) (IntKind.i64.wrap (v5 + (1 : Int))) (v6 ++ [[D.int IntKind.i64 n12]])) (none)) (F67.L6 k call k3 (n) (v0) (v1) (v2) (v3) (v4) (IntKind.i64.wrap (v5 + (1 : Int))) (v6))) (none)) (F67.L3 k call  (k3) (v0) (v1) (IntKind.i64.wrap (v2 + (1 : Int))) (v6)) := by kernel_rfl
theorem F67.eq (k : Nat) (call : CallF) (a0 : Ovi.Rows) : evFnK P hs call (67 : FuncId) k Try.f67 [AV.d (D.list 2 a0)] = F67.L3 k call  (k) (a0) ((↑(List.length a0) : Int)) ((0 : Int)) ([]) := by kernel_rfl
theorem F67.run (k : Nat) (a0 : Ovi.Rows) : C (k + 1) 67 [AV.d (D.list 2 a0)] = F67.L3 k (C k)  (k) (a0) ((↑(List.length a0) : Int)) ((0 : Int)) ([]) := (show C (k + 1) 67 [AV.d (D.list 2 a0)] = evFnK P hs (C k) 67 k Try.f67 [AV.d (D.list 2 a0)] by kernel_rfl).trans (F67.eq k (C k) a0)
theorem F68.eq (k : Nat) (call : CallF) (a0 : Ovi.Rows) (a1 : Ovi.Rows) (a2 : Int) : evFnK P hs call (68 : FuncId) k Try.f68 [AV.d (D.list 3 a0), AV.d (D.list 2 a1), AV.d (D.int IntKind.i64 a2)] = bindR (call 113 [AV.d (D.int IntKind.i64 (↑(List.length a1) : Int)), AV.d (D.int IntKind.i64 (1 : Int)), AV.d (D.int IntKind.i64 a2)]) fun r5 => bindB (resB 1 false 1 r5 0 0) fun b6 => ite' (b6) (bindR (call 114 [AV.d (D.list 2 a1), AV.d (D.fn 115 [[D.list 3 a0]])]) fun r7 => bindB (resB 1 false 1 r7 0 0) fun b8 => some ([(false, [RL.d (D.bool !b8)])])) (some ([(false, [RL.d (D.bool false)])])) := by kernel_rfl
theorem F68.run (k : Nat) (a0 : Ovi.Rows) (a1 : Ovi.Rows) (a2 : Int) : C (k + 1) 68 [AV.d (D.list 3 a0), AV.d (D.list 2 a1), AV.d (D.int IntKind.i64 a2)] = bindR ((C k) 113 [AV.d (D.int IntKind.i64 (↑(List.length a1) : Int)), AV.d (D.int IntKind.i64 (1 : Int)), AV.d (D.int IntKind.i64 a2)]) fun r5 => bindB (resB 1 false 1 r5 0 0) fun b6 => ite' (b6) (bindR ((C k) 114 [AV.d (D.list 2 a1), AV.d (D.fn 115 [[D.list 3 a0]])]) fun r7 => bindB (resB 1 false 1 r7 0 0) fun b8 => some ([(false, [RL.d (D.bool !b8)])])) (some ([(false, [RL.d (D.bool false)])])) := (show C (k + 1) 68 [AV.d (D.list 3 a0), AV.d (D.list 2 a1), AV.d (D.int IntKind.i64 a2)] = evFnK P hs (C k) 68 k Try.f68 [AV.d (D.list 3 a0), AV.d (D.list 2 a1), AV.d (D.int IntKind.i64 a2)] by kernel_rfl).trans (F68.eq k (C k) a0 a1 a2)
theorem F69.eq (k : Nat) (call : CallF) (a0 : Ovi.Rows) (a1 : FuncId) (a1c : Ovi.Rows) : evFnK P hs call (69 : FuncId) k Try.f69 [AV.d (D.list 1 a0), AV.d (D.fn a1 a1c)] = bindR (call 117 [AV.d (D.list 1 a0), AV.d (D.fn a1 a1c)]) fun r5 => bindI (resI IntKind.i64 1 false 1 r5 0 0) fun n6 => some ([(false, [RL.d (D.bool (decide (n6 ≥ (0 : Int))))])]) := by kernel_rfl
theorem F69.run (k : Nat) (a0 : Ovi.Rows) (a1 : FuncId) (a1c : Ovi.Rows) : C (k + 1) 69 [AV.d (D.list 1 a0), AV.d (D.fn a1 a1c)] = bindR ((C k) 117 [AV.d (D.list 1 a0), AV.d (D.fn a1 a1c)]) fun r5 => bindI (resI IntKind.i64 1 false 1 r5 0 0) fun n6 => some ([(false, [RL.d (D.bool (decide (n6 ≥ (0 : Int))))])]) := (show C (k + 1) 69 [AV.d (D.list 1 a0), AV.d (D.fn a1 a1c)] = evFnK P hs (C k) 69 k Try.f69 [AV.d (D.list 1 a0), AV.d (D.fn a1 a1c)] by kernel_rfl).trans (F69.eq k (C k) a0 a1 a1c)
theorem F70.eq (k : Nat) (call : CallF) (a0 : Int) (c0_0 : Ovi.Rows) : evFnK P hs call (70 : FuncId) k Try.f70 [AV.d (D.int IntKind.i64 a0), AV.cap [D.list 1 c0_0] 0] = bindR (call 71 [AV.d (D.list 1 c0_0), AV.d (D.int IntKind.i64 a0)]) fun r4 => bindB (resB 1 false 1 r4 0 0) fun b5 => some ([(false, [RL.d (D.bool !b5)])]) := by kernel_rfl
theorem F70.run (k : Nat) (a0 : Int) (c0_0 : Ovi.Rows) : C (k + 1) 70 [AV.d (D.int IntKind.i64 a0), AV.cap [D.list 1 c0_0] 0] = bindR ((C k) 71 [AV.d (D.list 1 c0_0), AV.d (D.int IntKind.i64 a0)]) fun r4 => bindB (resB 1 false 1 r4 0 0) fun b5 => some ([(false, [RL.d (D.bool !b5)])]) := (show C (k + 1) 70 [AV.d (D.int IntKind.i64 a0), AV.cap [D.list 1 c0_0] 0] = evFnK P hs (C k) 70 k Try.f70 [AV.d (D.int IntKind.i64 a0), AV.cap [D.list 1 c0_0] 0] by kernel_rfl).trans (F70.eq k (C k) a0 c0_0)
theorem F71.eq (k : Nat) (call : CallF) (a0 : Ovi.Rows) (a1 : Int) : evFnK P hs call (71 : FuncId) k Try.f71 [AV.d (D.list 1 a0), AV.d (D.int IntKind.i64 a1)] = bindR (call 118 [AV.d (D.list 1 a0), AV.d (D.int IntKind.i64 a1)]) fun r4 => bindI (resI IntKind.i64 1 false 1 r4 0 0) fun n5 => some ([(false, [RL.d (D.bool (decide (n5 ≥ (0 : Int))))])]) := by kernel_rfl
theorem F71.run (k : Nat) (a0 : Ovi.Rows) (a1 : Int) : C (k + 1) 71 [AV.d (D.list 1 a0), AV.d (D.int IntKind.i64 a1)] = bindR ((C k) 118 [AV.d (D.list 1 a0), AV.d (D.int IntKind.i64 a1)]) fun r4 => bindI (resI IntKind.i64 1 false 1 r4 0 0) fun n5 => some ([(false, [RL.d (D.bool (decide (n5 ≥ (0 : Int))))])]) := (show C (k + 1) 71 [AV.d (D.list 1 a0), AV.d (D.int IntKind.i64 a1)] = evFnK P hs (C k) 71 k Try.f71 [AV.d (D.list 1 a0), AV.d (D.int IntKind.i64 a1)] by kernel_rfl).trans (F71.eq k (C k) a0 a1)
theorem F72.eq (k : Nat) (call : CallF) (a0_0 : List UInt8) (a0_1 : Int) (a0_2 : Bool) (a1_0 : List UInt8) (a1_1 : Int) (a1_2 : Bool) : evFnK P hs call (72 : FuncId) k Try.f72 [AV.agg [AV.d (D.str a0_0), AV.d (D.int IntKind.i64 a0_1), AV.d (D.bool a0_2)], AV.agg [AV.d (D.str a1_0), AV.d (D.int IntKind.i64 a1_1), AV.d (D.bool a1_2)]] = ite' (!a0_0 == a1_0) (some ([(false, [RL.d (D.bool false)])])) (ite' (a0_1 != a1_1) (some ([(false, [RL.d (D.bool false)])])) (ite' (!a0_2 == a1_2) (some ([(false, [RL.d (D.bool false)])])) (some ([(false, [RL.d (D.bool true)])])))) := by kernel_rfl
theorem F72.run (k : Nat) (a0_0 : List UInt8) (a0_1 : Int) (a0_2 : Bool) (a1_0 : List UInt8) (a1_1 : Int) (a1_2 : Bool) : C (k + 1) 72 [AV.agg [AV.d (D.str a0_0), AV.d (D.int IntKind.i64 a0_1), AV.d (D.bool a0_2)], AV.agg [AV.d (D.str a1_0), AV.d (D.int IntKind.i64 a1_1), AV.d (D.bool a1_2)]] = ite' (!a0_0 == a1_0) (some ([(false, [RL.d (D.bool false)])])) (ite' (a0_1 != a1_1) (some ([(false, [RL.d (D.bool false)])])) (ite' (!a0_2 == a1_2) (some ([(false, [RL.d (D.bool false)])])) (some ([(false, [RL.d (D.bool true)])])))) := (show C (k + 1) 72 [AV.agg [AV.d (D.str a0_0), AV.d (D.int IntKind.i64 a0_1), AV.d (D.bool a0_2)], AV.agg [AV.d (D.str a1_0), AV.d (D.int IntKind.i64 a1_1), AV.d (D.bool a1_2)]] = evFnK P hs (C k) 72 k Try.f72 [AV.agg [AV.d (D.str a0_0), AV.d (D.int IntKind.i64 a0_1), AV.d (D.bool a0_2)], AV.agg [AV.d (D.str a1_0), AV.d (D.int IntKind.i64 a1_1), AV.d (D.bool a1_2)]] by kernel_rfl).trans (F72.eq k (C k) a0_0 a0_1 a0_2 a1_0 a1_1 a1_2)
theorem F106.eq (k : Nat) (call : CallF) (a0_0 : Int) (a0_1 : Ovi.Rows) (a1 : Int) : evFnK P hs call (106 : FuncId) k Try.f106 [AV.agg [AV.d (D.int IntKind.i64 a0_0), AV.d (D.list 1 a0_1)], AV.d (D.int IntKind.i64 a1)] = bindR (call 52 [AV.d (D.list 1 a0_1), AV.d (D.int IntKind.i64 a1)]) fun r5 => bindI (resI IntKind.i64 1 false 1 r5 0 0) fun n6 => ite' (decide (n6 < (0 : Int))) (some ([(false, [RL.d (D.int IntKind.i64 (-1 : Int))])])) (some ([(false, [RL.d (D.int IntKind.i64 n6)])])) := by kernel_rfl
theorem F106.run (k : Nat) (a0_0 : Int) (a0_1 : Ovi.Rows) (a1 : Int) : C (k + 1) 106 [AV.agg [AV.d (D.int IntKind.i64 a0_0), AV.d (D.list 1 a0_1)], AV.d (D.int IntKind.i64 a1)] = bindR ((C k) 52 [AV.d (D.list 1 a0_1), AV.d (D.int IntKind.i64 a1)]) fun r5 => bindI (resI IntKind.i64 1 false 1 r5 0 0) fun n6 => ite' (decide (n6 < (0 : Int))) (some ([(false, [RL.d (D.int IntKind.i64 (-1 : Int))])])) (some ([(false, [RL.d (D.int IntKind.i64 n6)])])) := (show C (k + 1) 106 [AV.agg [AV.d (D.int IntKind.i64 a0_0), AV.d (D.list 1 a0_1)], AV.d (D.int IntKind.i64 a1)] = evFnK P hs (C k) 106 k Try.f106 [AV.agg [AV.d (D.int IntKind.i64 a0_0), AV.d (D.list 1 a0_1)], AV.d (D.int IntKind.i64 a1)] by kernel_rfl).trans (F106.eq k (C k) a0_0 a0_1 a1)
theorem F107.eq (k : Nat) (call : CallF) (a0_0 : Int) (a0_1 : Ovi.Rows) : evFnK P hs call (107 : FuncId) k Try.f107 [AV.agg [AV.d (D.int IntKind.i64 a0_0), AV.d (D.list 1 a0_1)]] = bindR (call 29 [AV.d (D.list 1 a0_1)]) fun r4 => bindL (resO 3 1 1 false 1 r4 0 0) fun l5 => some ([(true, [RL.d (D.int IntKind.i64 a0_0), RL.row 3 1 l5])]) := by kernel_rfl
theorem F107.run (k : Nat) (a0_0 : Int) (a0_1 : Ovi.Rows) : C (k + 1) 107 [AV.agg [AV.d (D.int IntKind.i64 a0_0), AV.d (D.list 1 a0_1)]] = bindR ((C k) 29 [AV.d (D.list 1 a0_1)]) fun r4 => bindL (resO 3 1 1 false 1 r4 0 0) fun l5 => some ([(true, [RL.d (D.int IntKind.i64 a0_0), RL.row 3 1 l5])]) := (show C (k + 1) 107 [AV.agg [AV.d (D.int IntKind.i64 a0_0), AV.d (D.list 1 a0_1)]] = evFnK P hs (C k) 107 k Try.f107 [AV.agg [AV.d (D.int IntKind.i64 a0_0), AV.d (D.list 1 a0_1)]] by kernel_rfl).trans (F107.eq k (C k) a0_0 a0_1)
theorem F108.eq (k : Nat) (call : CallF) (a0_0 : Int) (a0_1 : Ovi.Rows) (a1_0 : Int) (a1_1 : Ovi.Rows) : evFnK P hs call (108 : FuncId) k Try.f108 [AV.agg [AV.d (D.int IntKind.i64 a0_0), AV.d (D.list 1 a0_1)], AV.agg [AV.d (D.int IntKind.i64 a1_0), AV.d (D.list 1 a1_1)]] = ite' (a0_0 != a1_0) (some ([(false, [RL.d (D.bool false)])])) (bindR (call 32 [AV.d (D.list 1 a0_1), AV.d (D.list 1 a1_1)]) fun r6 => bindB (resB 1 false 1 r6 0 0) fun b7 => ite' (!b7) (some ([(false, [RL.d (D.bool false)])])) (some ([(false, [RL.d (D.bool true)])]))) := by kernel_rfl
theorem F108.run (k : Nat) (a0_0 : Int) (a0_1 : Ovi.Rows) (a1_0 : Int) (a1_1 : Ovi.Rows) : C (k + 1) 108 [AV.agg [AV.d (D.int IntKind.i64 a0_0), AV.d (D.list 1 a0_1)], AV.agg [AV.d (D.int IntKind.i64 a1_0), AV.d (D.list 1 a1_1)]] = ite' (a0_0 != a1_0) (some ([(false, [RL.d (D.bool false)])])) (bindR ((C k) 32 [AV.d (D.list 1 a0_1), AV.d (D.list 1 a1_1)]) fun r6 => bindB (resB 1 false 1 r6 0 0) fun b7 => ite' (!b7) (some ([(false, [RL.d (D.bool false)])])) (some ([(false, [RL.d (D.bool true)])]))) := (show C (k + 1) 108 [AV.agg [AV.d (D.int IntKind.i64 a0_0), AV.d (D.list 1 a0_1)], AV.agg [AV.d (D.int IntKind.i64 a1_0), AV.d (D.list 1 a1_1)]] = evFnK P hs (C k) 108 k Try.f108 [AV.agg [AV.d (D.int IntKind.i64 a0_0), AV.d (D.list 1 a0_1)], AV.agg [AV.d (D.int IntKind.i64 a1_0), AV.d (D.list 1 a1_1)]] by kernel_rfl).trans (F108.eq k (C k) a0_0 a0_1 a1_0 a1_1)
noncomputable def F109.L2 (k : Nat) (call : CallF)  (n : Nat) (v0 : Ovi.Rows) (v1 : Int) (v2 : Int) : Option Res := loopFn P hs call 109 k Try.f109 [1, 1, 0, 0] [] n [(0, AV.d (D.list 1 v0)), (1, AV.d (D.int IntKind.i64 v1)), (5, AV.d (D.int IntKind.i64 v2))] []
theorem F109.L2.zero (k : Nat) (call : CallF)  (v0 : Ovi.Rows) (v1 : Int) (v2 : Int) : F109.L2 k call  0 v0 v1 v2 = none := by kernel_rfl
theorem F109.L2.succ (k : Nat) (call : CallF)  (n : Nat) (v0 : Ovi.Rows) (v1 : Int) (v2 : Int) : F109.L2 k call  (n + 1) v0 v1 v2 = ite' (decide (v2 < (↑(List.length v0) : Int))) (ite' (inR v2 (List.length v0)) (bindI (cellI IntKind.i64 v0 v2.toNat 0) fun n8 => ite' (decide (n8 < v1)) (F109.L2 k call  (n) (v0) (v1) (IntKind.i64.wrap (v2 + (1 : Int)))) (ite' (decide (v2 < (↑(List.length v0) : Int))) (ite' (inR v2 (List.length v0)) (bindI (cellI IntKind.i64 v0 v2.toNat 0) fun n9 => ite' (n9 == v1) (some ([(false, [RL.d (D.list 1 v0)])])) (ite' (inS v2 (↑(List.length v0) : Int) (List.length v0)) (ite' (fits ([[D.int IntKind.i64 v1]].length + (List.drop v2.toNat v0).length)) (ite' (inS (0 : Int) v2 (List.length v0)) (ite' (fits (List.take v2.toNat v0).length) (ite' (fits ((List.take v2.toNat v0).length + List.length ([[D.int IntKind.i64 v1]] ++ List.drop v2.toNat v0))) (some ([(false, [RL.row 3 1 (List.take v2.toNat v0 ++ ([[D.int IntKind.i64 v1]] ++ List.drop v2.toNat v0))])])) (none)) (none)) (none)) (none)) (none))) (none)) (ite' (inS v2 (↑(List.length v0) : Int) (List.length v0)) (ite' (fits ([[D.int IntKind.i64 v1]].length + (List.drop v2.toNat v0).length)) (ite' (inS (0 : Int) v2 (List.length v0)) (ite' (fits (List.take v2.toNat v0).length) (ite' (fits ((List.take v2.toNat v0).length + List.length ([[D.int IntKind.i64 v1]] ++ List.drop v2.toNat v0))) (some ([(false, [RL.row 3 1 (List.take v2.toNat v0 ++ ([[D.int IntKind.i64 v1]] ++ List.drop v2.toNat v0))])])) (none)) (none)) (none)) (none)) (none)))) (none)) (ite' (decide (v2 < (↑(List.length v0) : Int))) (ite' (inR v2 (List.length v0)) (bindI (cellI IntKind.i64 v0 v2.toNat 0) fun n8 => ite' (n8 == v1) (some ([(false, [RL.d (D.list 1 v0)])])) (ite' (inS v2 (↑(List.length v0) : Int) (List.length v0)) (ite' (fits ([[D.int IntKind.i64 v1]].length + (List.drop v2.toNat v0).length)) (ite' (inS (0 : Int) v2 (List.length v0)) (ite' (fits (List.take v2.toNat v0).length) (ite' (fits ((List.take v2.toNat v0).length + List.length ([[D.int IntKind.i64 v1]] ++ List.drop v2.toNat v0))) (some ([(false, [RL.row 3 1 (List.take v2.toNat v0 ++ ([[D.int IntKind.i64 v1]] ++ List.drop v2.toNat v0))])])) (none)) (none)) (none)) (none)) (none))) (none)) (ite' (inS v2 (↑(List.length v0) : Int) (List.length v0)) (ite' (fits ([[D.int IntKind.i64 v1]].length + (List.drop v2.toNat v0).length)) (ite' (inS (0 : Int) v2 (List.length v0)) (ite' (fits (List.take v2.toNat v0).length) (ite' (fits ((List.take v2.toNat v0).length + List.length ([[D.int IntKind.i64 v1]] ++ List.drop v2.toNat v0))) (some ([(false, [RL.row 3 1 (List.take v2.toNat v0 ++ ([[D.int IntKind.i64 v1]] ++ List.drop v2.toNat v0))])])) (none)) (none)) (none)) (none)) (none))) := by kernel_rfl
theorem F109.eq (k : Nat) (call : CallF) (a0 : Ovi.Rows) (a1 : Int) : evFnK P hs call (109 : FuncId) k Try.f109 [AV.d (D.list 1 a0), AV.d (D.int IntKind.i64 a1)] = F109.L2 k call  (k) (a0) (a1) ((0 : Int)) := by kernel_rfl
theorem F109.run (k : Nat) (a0 : Ovi.Rows) (a1 : Int) : C (k + 1) 109 [AV.d (D.list 1 a0), AV.d (D.int IntKind.i64 a1)] = F109.L2 k (C k)  (k) (a0) (a1) ((0 : Int)) := (show C (k + 1) 109 [AV.d (D.list 1 a0), AV.d (D.int IntKind.i64 a1)] = evFnK P hs (C k) 109 k Try.f109 [AV.d (D.list 1 a0), AV.d (D.int IntKind.i64 a1)] by kernel_rfl).trans (F109.eq k (C k) a0 a1)
noncomputable def F110.L2 (k : Nat) (call : CallF)  (n : Nat) (v0 : Ovi.Rows) (v1 : Int) : Option Res := loopFn P hs call 110 k Try.f110 [1, 0, 1, 0] [] n [(0, AV.d (D.list 3 v0)), (3, AV.d (D.int IntKind.i64 v1))] []
theorem F110.L2.zero (k : Nat) (call : CallF)  (v0 : Ovi.Rows) (v1 : Int) : F110.L2 k call  0 v0 v1 = none := by kernel_rfl
theorem F110.L2.succ (k : Nat) (call : CallF)  (n : Nat) (v0 : Ovi.Rows) (v1 : Int) : F110.L2 k call  (n + 1) v0 v1 = ite' (decide (v1 < (↑(List.length v0) : Int))) (ite' (inR v1 (List.length v0)) (bindS (cellS v0 v1.toNat 0) fun s6 => bindI (cellI IntKind.i64 v0 v1.toNat 1) fun n7 => bindB (cellB v0 v1.toNat 2) fun b8 => bindR (call 155 [AV.agg [AV.d (D.str s6), AV.d (D.int IntKind.i64 n7), AV.d (D.bool b8)]]) fun r9 => bindB (resB 1 false 1 r9 0 0) fun b10 => ite' (!b10) (some ([(false, [RL.d (D.bool false)])])) (ite' (decide (v1 > (0 : Int))) (ite' (inR (IntKind.i64.wrap (v1 - (1 : Int))) (List.length v0)) (bindS (cellS v0 (IntKind.i64.wrap (v1 - (1 : Int))).toNat 0) fun s11 => ite' (inR v1 (List.length v0)) (bindS (cellS v0 v1.toNat 0) fun s12 => ite' (!sLess s11 s12) (some ([(false, [RL.d (D.bool false)])])) (F110.L2 k call  (n) (v0) (IntKind.i64.wrap (v1 + (1 : Int))))) (none)) (none)) (F110.L2 k call  (n) (v0) (IntKind.i64.wrap (v1 + (1 : Int)))))) (none)) (some ([(false, [RL.d (D.bool (decide ((↑(List.length v0) : Int) ≤ (6 : Int))))])])) := by kernel_rfl
theorem F110.eq (k : Nat) (call : CallF) (a0 : Ovi.Rows) : evFnK P hs call (110 : FuncId) k Try.f110 [AV.d (D.list 3 a0)] = F110.L2 k call  (k) (a0) ((0 : Int)) := by kernel_rfl
theorem F110.run (k : Nat) (a0 : Ovi.Rows) : C (k + 1) 110 [AV.d (D.list 3 a0)] = F110.L2 k (C k)  (k) (a0) ((0 : Int)) := (show C (k + 1) 110 [AV.d (D.list 3 a0)] = evFnK P hs (C k) 110 k Try.f110 [AV.d (D.list 3 a0)] by kernel_rfl).trans (F110.eq k (C k) a0)
theorem F113.eq (k : Nat) (call : CallF) (a0 : Int) (a1 : Int) (a2 : Int) : evFnK P hs call (113 : FuncId) k Try.f113 [AV.d (D.int IntKind.i64 a0), AV.d (D.int IntKind.i64 a1), AV.d (D.int IntKind.i64 a2)] = ite' (decide (a1 ≤ a0)) (some ([(false, [RL.d (D.bool (decide (a0 ≤ a2)))])])) (some ([(false, [RL.d (D.bool false)])])) := by kernel_rfl
theorem F113.run (k : Nat) (a0 : Int) (a1 : Int) (a2 : Int) : C (k + 1) 113 [AV.d (D.int IntKind.i64 a0), AV.d (D.int IntKind.i64 a1), AV.d (D.int IntKind.i64 a2)] = ite' (decide (a1 ≤ a0)) (some ([(false, [RL.d (D.bool (decide (a0 ≤ a2)))])])) (some ([(false, [RL.d (D.bool false)])])) := (show C (k + 1) 113 [AV.d (D.int IntKind.i64 a0), AV.d (D.int IntKind.i64 a1), AV.d (D.int IntKind.i64 a2)] = evFnK P hs (C k) 113 k Try.f113 [AV.d (D.int IntKind.i64 a0), AV.d (D.int IntKind.i64 a1), AV.d (D.int IntKind.i64 a2)] by kernel_rfl).trans (F113.eq k (C k) a0 a1 a2)
theorem F114.eq (k : Nat) (call : CallF) (a0 : Ovi.Rows) (a1 : FuncId) (a1c : Ovi.Rows) : evFnK P hs call (114 : FuncId) k Try.f114 [AV.d (D.list 2 a0), AV.d (D.fn a1 a1c)] = bindR (call 158 [AV.d (D.list 2 a0), AV.d (D.fn a1 a1c)]) fun r5 => bindI (resI IntKind.i64 1 false 1 r5 0 0) fun n6 => some ([(false, [RL.d (D.bool (decide (n6 ≥ (0 : Int))))])]) := by kernel_rfl
theorem F114.run (k : Nat) (a0 : Ovi.Rows) (a1 : FuncId) (a1c : Ovi.Rows) : C (k + 1) 114 [AV.d (D.list 2 a0), AV.d (D.fn a1 a1c)] = bindR ((C k) 158 [AV.d (D.list 2 a0), AV.d (D.fn a1 a1c)]) fun r5 => bindI (resI IntKind.i64 1 false 1 r5 0 0) fun n6 => some ([(false, [RL.d (D.bool (decide (n6 ≥ (0 : Int))))])]) := (show C (k + 1) 114 [AV.d (D.list 2 a0), AV.d (D.fn a1 a1c)] = evFnK P hs (C k) 114 k Try.f114 [AV.d (D.list 2 a0), AV.d (D.fn a1 a1c)] by kernel_rfl).trans (F114.eq k (C k) a0 a1 a1c)
theorem F115.eq (k : Nat) (call : CallF) (a0_0 : Int) (a0_1 : Ovi.Rows) (c0_0 : Ovi.Rows) : evFnK P hs call (115 : FuncId) k Try.f115 [AV.agg [AV.d (D.int IntKind.i64 a0_0), AV.d (D.list 1 a0_1)], AV.cap [D.list 3 c0_0] 0] = bindR (call 116 [AV.d (D.list 3 c0_0), AV.agg [AV.d (D.int IntKind.i64 a0_0), AV.d (D.list 1 a0_1)]]) fun r5 => bindB (resB 1 false 1 r5 0 0) fun b6 => some ([(false, [RL.d (D.bool !b6)])]) := by kernel_rfl
theorem F115.run (k : Nat) (a0_0 : Int) (a0_1 : Ovi.Rows) (c0_0 : Ovi.Rows) : C (k + 1) 115 [AV.agg [AV.d (D.int IntKind.i64 a0_0), AV.d (D.list 1 a0_1)], AV.cap [D.list 3 c0_0] 0] = bindR ((C k) 116 [AV.d (D.list 3 c0_0), AV.agg [AV.d (D.int IntKind.i64 a0_0), AV.d (D.list 1 a0_1)]]) fun r5 => bindB (resB 1 false 1 r5 0 0) fun b6 => some ([(false, [RL.d (D.bool !b6)])]) := (show C (k + 1) 115 [AV.agg [AV.d (D.int IntKind.i64 a0_0), AV.d (D.list 1 a0_1)], AV.cap [D.list 3 c0_0] 0] = evFnK P hs (C k) 115 k Try.f115 [AV.agg [AV.d (D.int IntKind.i64 a0_0), AV.d (D.list 1 a0_1)], AV.cap [D.list 3 c0_0] 0] by kernel_rfl).trans (F115.eq k (C k) a0_0 a0_1 c0_0)
theorem F116.eq (k : Nat) (call : CallF) (a0 : Ovi.Rows) (a1_0 : Int) (a1_1 : Ovi.Rows) : evFnK P hs call (116 : FuncId) k Try.f116 [AV.d (D.list 3 a0), AV.agg [AV.d (D.int IntKind.i64 a1_0), AV.d (D.list 1 a1_1)]] = bindR (call 123 [AV.d (D.list 3 a0)]) fun r5 => bindB (resB 1 false 1 r5 0 0) fun b6 => ite' (!b6) (some ([(false, [RL.d (D.bool false)])])) (bindR (call 113 [AV.d (D.int IntKind.i64 a1_0), AV.d (D.int IntKind.i64 (0 : Int)), AV.d (D.int IntKind.i64 (IntKind.i64.wrap ((↑(List.length a0) : Int) - (1 : Int))))]) fun r7 => bindB (resB 1 false 1 r7 0 0) fun b8 => ite' (!b8) (some ([(false, [RL.d (D.bool false)])])) (ite' (inR a1_0 (List.length a0)) (bindI (cellI IntKind.i64 a0 a1_0.toNat 1) fun n9 => ite' ((↑(List.length a1_1) : Int) != n9) (some ([(false, [RL.d (D.bool false)])])) (bindR (call 69 [AV.d (D.list 1 a1_1), AV.d (D.fn 159 [])]) fun r10 => bindB (resB 1 false 1 r10 0 0) fun b11 => some ([(false, [RL.d (D.bool !b11)])]))) (none))) := by kernel_rfl
theorem F116.run (k : Nat) (a0 : Ovi.Rows) (a1_0 : Int) (a1_1 : Ovi.Rows) : C (k + 1) 116 [AV.d (D.list 3 a0), AV.agg [AV.d (D.int IntKind.i64 a1_0), AV.d (D.list 1 a1_1)]] = bindR ((C k) 123 [AV.d (D.list 3 a0)]) fun r5 => bindB (resB 1 false 1 r5 0 0) fun b6 => ite' (!b6) (some ([(false, [RL.d (D.bool false)])])) (bindR ((C k) 113 [AV.d (D.int IntKind.i64 a1_0), AV.d (D.int IntKind.i64 (0 : Int)), AV.d (D.int IntKind.i64 (IntKind.i64.wrap ((↑(List.length a0) : Int) - (1 : Int))))]) fun r7 => bindB (resB 1 false 1 r7 0 0) fun b8 => ite' (!b8) (some ([(false, [RL.d (D.bool false)])])) (ite' (inR a1_0 (List.length a0)) (bindI (cellI IntKind.i64 a0 a1_0.toNat 1) fun n9 => ite' ((↑(List.length a1_1) : Int) != n9) (some ([(false, [RL.d (D.bool false)])])) (bindR ((C k) 69 [AV.d (D.list 1 a1_1), AV.d (D.fn 159 [])]) fun r10 => bindB (resB 1 false 1 r10 0 0) fun b11 => some ([(false, [RL.d (D.bool !b11)])]))) (none))) := (show C (k + 1) 116 [AV.d (D.list 3 a0), AV.agg [AV.d (D.int IntKind.i64 a1_0), AV.d (D.list 1 a1_1)]] = evFnK P hs (C k) 116 k Try.f116 [AV.d (D.list 3 a0), AV.agg [AV.d (D.int IntKind.i64 a1_0), AV.d (D.list 1 a1_1)]] by kernel_rfl).trans (F116.eq k (C k) a0 a1_0 a1_1)
noncomputable def F117.L2 (k : Nat) (call : CallF)  (n : Nat) (v0 : Ovi.Rows) (v1 : FuncId) (v2 : Ovi.Rows) (v3 : Int) (v4 : Int) : Option Res := loopFn P hs call 117 k Try.f117 [1, 0, 1, 0] [] n [(0, AV.d (D.list 1 v0)), (1, AV.d (D.fn v1 v2)), (7, AV.d (D.int IntKind.i64 v3)), (8, AV.d (D.int IntKind.i64 v4))] []
theorem F117.L2.zero (k : Nat) (call : CallF)  (v0 : Ovi.Rows) (v1 : FuncId) (v2 : Ovi.Rows) (v3 : Int) (v4 : Int) : F117.L2 k call  0 v0 v1 v2 v3 v4 = none := by kernel_rfl
theorem F117.L2.succ (k : Nat) (call : CallF)  (n : Nat) (v0 : Ovi.Rows) (v1 : FuncId) (v2 : Ovi.Rows) (v3 : Int) (v4 : Int) : F117.L2 k call  (n + 1) v0 v1 v2 v3 v4 = ite' (decide (v4 < v3)) (ite' (inR v4 (List.length v0)) (bindI (cellI IntKind.i64 v0 v4.toNat 0) fun n11 => bindR (call v1 (AV.d (D.int IntKind.i64 n11) :: [].append (List.map (fun (c : List D) => AV.cap c 0) v2))) fun r12 => bindB (resB 1 false 1 r12 0 0) fun b13 => ite' (b13) (some ([(false, [RL.d (D.int IntKind.i64 v4)])])) (F117.L2 k call  (n) (v0) (v1) (v2) (v3) (IntKind.i64.wrap (v4 + (1 : Int))))) (none)) (some ([(false, [RL.d (D.int IntKind.i64 (-1 : Int))])])) := by kernel_rfl
theorem F117.eq (k : Nat) (call : CallF) (a0 : Ovi.Rows) (a1 : FuncId) (a1c : Ovi.Rows) : evFnK P hs call (117 : FuncId) k Try.f117 [AV.d (D.list 1 a0), AV.d (D.fn a1 a1c)] = F117.L2 k call  (k) (a0) (a1) (a1c) ((↑(List.length a0) : Int)) ((0 : Int)) := by kernel_rfl
theorem F117.run (k : Nat) (a0 : Ovi.Rows) (a1 : FuncId) (a1c : Ovi.Rows) : C (k + 1) 117 [AV.d (D.list 1 a0), AV.d (D.fn a1 a1c)] = F117.L2 k (C k)  (k) (a0) (a1) (a1c) ((↑(List.length a0) : Int)) ((0 : Int)) := (show C (k + 1) 117 [AV.d (D.list 1 a0), AV.d (D.fn a1 a1c)] = evFnK P hs (C k) 117 k Try.f117 [AV.d (D.list 1 a0), AV.d (D.fn a1 a1c)] by kernel_rfl).trans (F117.eq k (C k) a0 a1 a1c)
noncomputable def F118.L2 (k : Nat) (call : CallF)  (n : Nat) (v0 : Ovi.Rows) (v1 : Int) (v2 : Int) (v3 : Int) : Option Res := loopFn P hs call 118 k Try.f118 [1, 0, 1, 0] [] n [(0, AV.d (D.list 1 v0)), (1, AV.d (D.int IntKind.i64 v1)), (7, AV.d (D.int IntKind.i64 v2)), (8, AV.d (D.int IntKind.i64 v3))] []
theorem F118.L2.zero (k : Nat) (call : CallF)  (v0 : Ovi.Rows) (v1 : Int) (v2 : Int) (v3 : Int) : F118.L2 k call  0 v0 v1 v2 v3 = none := by kernel_rfl
theorem F118.L2.succ (k : Nat) (call : CallF)  (n : Nat) (v0 : Ovi.Rows) (v1 : Int) (v2 : Int) (v3 : Int) : F118.L2 k call  (n + 1) v0 v1 v2 v3 = ite' (decide (v3 < v2)) (ite' (inR v3 (List.length v0)) (bindI (cellI IntKind.i64 v0 v3.toNat 0) fun n9 => ite' (v1 == n9) (some ([(false, [RL.d (D.int IntKind.i64 v3)])])) (F118.L2 k call  (n) (v0) (v1) (v2) (IntKind.i64.wrap (v3 + (1 : Int))))) (none)) (some ([(false, [RL.d (D.int IntKind.i64 (-1 : Int))])])) := by kernel_rfl
theorem F118.eq (k : Nat) (call : CallF) (a0 : Ovi.Rows) (a1 : Int) : evFnK P hs call (118 : FuncId) k Try.f118 [AV.d (D.list 1 a0), AV.d (D.int IntKind.i64 a1)] = F118.L2 k call  (k) (a0) (a1) ((↑(List.length a0) : Int)) ((0 : Int)) := by kernel_rfl
theorem F118.run (k : Nat) (a0 : Ovi.Rows) (a1 : Int) : C (k + 1) 118 [AV.d (D.list 1 a0), AV.d (D.int IntKind.i64 a1)] = F118.L2 k (C k)  (k) (a0) (a1) ((↑(List.length a0) : Int)) ((0 : Int)) := (show C (k + 1) 118 [AV.d (D.list 1 a0), AV.d (D.int IntKind.i64 a1)] = evFnK P hs (C k) 118 k Try.f118 [AV.d (D.list 1 a0), AV.d (D.int IntKind.i64 a1)] by kernel_rfl).trans (F118.eq k (C k) a0 a1)
noncomputable def F123.L2 (k : Nat) (call : CallF)  (n : Nat) (v0 : Ovi.Rows) (v1 : Ovi.Rows) (v2 : Int) (v3 : Int) : Option Res := loopFn P hs call 123 k Try.f123 [1, 0, 1, 0] [] n [(0, AV.d (D.list 3 v0)), (5, AV.d (D.list 3 v1)), (6, AV.d (D.int IntKind.i64 v2)), (7, AV.d (D.int IntKind.i64 v3))] []
theorem F123.L2.zero (k : Nat) (call : CallF)  (v0 : Ovi.Rows) (v1 : Ovi.Rows) (v2 : Int) (v3 : Int) : F123.L2 k call  0 v0 v1 v2 v3 = none := by kernel_rfl
theorem F123.L2.succ (k : Nat) (call : CallF)  (n : Nat) (v0 : Ovi.Rows) (v1 : Ovi.Rows) (v2 : Int) (v3 : Int) : F123.L2 k call  (n + 1) v0 v1 v2 v3 = ite' (decide (v3 < v2)) (ite' (inR v3 (List.length v1)) (bindS (cellS v1 v3.toNat 0) fun s8 => bindI (cellI IntKind.i64 v1 v3.toNat 1) fun n9 => bindB (cellB v1 v3.toNat 2) fun b10 => bindR (call 160 [AV.agg [AV.d (D.str s8), AV.d (D.int IntKind.i64 n9), AV.d (D.bool b10)]]) fun r11 => bindB (resB 1 false 1 r11 0 0) fun b12 => ite' (!b12) (some ([(false, [RL.d (D.bool false)])])) (ite' (decide (v3 > (0 : Int))) (ite' (inR (IntKind.i64.wrap (v3 - (1 : Int))) (List.length v0)) (bindS (cellS v0 (IntKind.i64.wrap (v3 - (1 : Int))).toNat 0) fun s13 => ite' (sLess s8 s13 || s8 == s13) (some ([(false, [RL.d (D.bool false)])])) (F123.L2 k call  (n) (v0) (v1) (v2) (IntKind.i64.wrap (v3 + (1 : Int))))) (none)) (F123.L2 k call  (n) (v0) (v1) (v2) (IntKind.i64.wrap (v3 + (1 : Int)))))) (none)) (some ([(false, [RL.d (D.bool (decide ((↑(List.length v0) : Int) ≤ (6 : Int))))])])) := by kernel_rfl
theorem F123.eq (k : Nat) (call : CallF) (a0 : Ovi.Rows) : evFnK P hs call (123 : FuncId) k Try.f123 [AV.d (D.list 3 a0)] = F123.L2 k call  (k) (a0) (a0) ((↑(List.length a0) : Int)) ((0 : Int)) := by kernel_rfl
theorem F123.run (k : Nat) (a0 : Ovi.Rows) : C (k + 1) 123 [AV.d (D.list 3 a0)] = F123.L2 k (C k)  (k) (a0) (a0) ((↑(List.length a0) : Int)) ((0 : Int)) := (show C (k + 1) 123 [AV.d (D.list 3 a0)] = evFnK P hs (C k) 123 k Try.f123 [AV.d (D.list 3 a0)] by kernel_rfl).trans (F123.eq k (C k) a0)
theorem F155.eq (k : Nat) (call : CallF) (a0_0 : List UInt8) (a0_1 : Int) (a0_2 : Bool) : evFnK P hs call (155 : FuncId) k Try.f155 [AV.agg [AV.d (D.str a0_0), AV.d (D.int IntKind.i64 a0_1), AV.d (D.bool a0_2)]] = ite' ((↑a0_0.length : Int) == (1 : Int)) (ite' (inR (0 : Int) a0_0.length) (ite' (decide (byteAt a0_0 (0 : Int) ≥ (97 : Int))) (ite' (inR (0 : Int) a0_0.length) (ite' (decide (byteAt a0_0 (0 : Int) ≤ (122 : Int))) (bindR (call 65 [AV.d (D.int IntKind.i64 a0_1), AV.d (D.int IntKind.i64 (1 : Int)), AV.d (D.int IntKind.i64 (3 : Int))]) fun r5 => bindB (resB 1 false 1 r5 0 0) fun b6 => some ([(false, [RL.d (D.bool b6)])])) (some ([(false, [RL.d (D.bool false)])]))) (none)) (some ([(false, [RL.d (D.bool false)])]))) (none)) (some ([(false, [RL.d (D.bool false)])])) := by kernel_rfl
theorem F155.run (k : Nat) (a0_0 : List UInt8) (a0_1 : Int) (a0_2 : Bool) : C (k + 1) 155 [AV.agg [AV.d (D.str a0_0), AV.d (D.int IntKind.i64 a0_1), AV.d (D.bool a0_2)]] = ite' ((↑a0_0.length : Int) == (1 : Int)) (ite' (inR (0 : Int) a0_0.length) (ite' (decide (byteAt a0_0 (0 : Int) ≥ (97 : Int))) (ite' (inR (0 : Int) a0_0.length) (ite' (decide (byteAt a0_0 (0 : Int) ≤ (122 : Int))) (bindR ((C k) 65 [AV.d (D.int IntKind.i64 a0_1), AV.d (D.int IntKind.i64 (1 : Int)), AV.d (D.int IntKind.i64 (3 : Int))]) fun r5 => bindB (resB 1 false 1 r5 0 0) fun b6 => some ([(false, [RL.d (D.bool b6)])])) (some ([(false, [RL.d (D.bool false)])]))) (none)) (some ([(false, [RL.d (D.bool false)])]))) (none)) (some ([(false, [RL.d (D.bool false)])])) := (show C (k + 1) 155 [AV.agg [AV.d (D.str a0_0), AV.d (D.int IntKind.i64 a0_1), AV.d (D.bool a0_2)]] = evFnK P hs (C k) 155 k Try.f155 [AV.agg [AV.d (D.str a0_0), AV.d (D.int IntKind.i64 a0_1), AV.d (D.bool a0_2)]] by kernel_rfl).trans (F155.eq k (C k) a0_0 a0_1 a0_2)
noncomputable def F158.L2 (k : Nat) (call : CallF)  (n : Nat) (v0 : Ovi.Rows) (v1 : FuncId) (v2 : Ovi.Rows) (v3 : Int) (v4 : Int) : Option Res := loopFn P hs call 158 k Try.f158 [1, 0, 1, 0] [] n [(0, AV.d (D.list 2 v0)), (1, AV.d (D.fn v1 v2)), (7, AV.d (D.int IntKind.i64 v3)), (8, AV.d (D.int IntKind.i64 v4))] []
theorem F158.L2.zero (k : Nat) (call : CallF)  (v0 : Ovi.Rows) (v1 : FuncId) (v2 : Ovi.Rows) (v3 : Int) (v4 : Int) : F158.L2 k call  0 v0 v1 v2 v3 v4 = none := by kernel_rfl
theorem F158.L2.succ (k : Nat) (call : CallF)  (n : Nat) (v0 : Ovi.Rows) (v1 : FuncId) (v2 : Ovi.Rows) (v3 : Int) (v4 : Int) : F158.L2 k call  (n + 1) v0 v1 v2 v3 v4 = ite' (decide (v4 < v3)) (ite' (inR v4 (List.length v0)) (bindI (cellI IntKind.i64 v0 v4.toNat 0) fun n11 => bindL (cellL 1 v0 v4.toNat 1) fun l12 => bindR (call v1 (AV.agg [AV.d (D.int IntKind.i64 n11), AV.d (D.list 1 l12)] :: [].append (List.map (fun (c : List D) => AV.cap c 0) v2))) fun r13 => bindB (resB 1 false 1 r13 0 0) fun b14 => ite' (b14) (some ([(false, [RL.d (D.int IntKind.i64 v4)])])) (F158.L2 k call  (n) (v0) (v1) (v2) (v3) (IntKind.i64.wrap (v4 + (1 : Int))))) (none)) (some ([(false, [RL.d (D.int IntKind.i64 (-1 : Int))])])) := by kernel_rfl
theorem F158.eq (k : Nat) (call : CallF) (a0 : Ovi.Rows) (a1 : FuncId) (a1c : Ovi.Rows) : evFnK P hs call (158 : FuncId) k Try.f158 [AV.d (D.list 2 a0), AV.d (D.fn a1 a1c)] = F158.L2 k call  (k) (a0) (a1) (a1c) ((↑(List.length a0) : Int)) ((0 : Int)) := by kernel_rfl
theorem F158.run (k : Nat) (a0 : Ovi.Rows) (a1 : FuncId) (a1c : Ovi.Rows) : C (k + 1) 158 [AV.d (D.list 2 a0), AV.d (D.fn a1 a1c)] = F158.L2 k (C k)  (k) (a0) (a1) (a1c) ((↑(List.length a0) : Int)) ((0 : Int)) := (show C (k + 1) 158 [AV.d (D.list 2 a0), AV.d (D.fn a1 a1c)] = evFnK P hs (C k) 158 k Try.f158 [AV.d (D.list 2 a0), AV.d (D.fn a1 a1c)] by kernel_rfl).trans (F158.eq k (C k) a0 a1 a1c)
theorem F159.eq (k : Nat) (call : CallF) (a0 : Int) : evFnK P hs call (159 : FuncId) k Try.f159 [AV.d (D.int IntKind.i64 a0)] = bindR (call 113 [AV.d (D.int IntKind.i64 a0), AV.d (D.int IntKind.i64 (-10 : Int)), AV.d (D.int IntKind.i64 (4 : Int))]) fun r3 => bindB (resB 1 false 1 r3 0 0) fun b4 => some ([(false, [RL.d (D.bool !b4)])]) := by kernel_rfl
theorem F159.run (k : Nat) (a0 : Int) : C (k + 1) 159 [AV.d (D.int IntKind.i64 a0)] = bindR ((C k) 113 [AV.d (D.int IntKind.i64 a0), AV.d (D.int IntKind.i64 (-10 : Int)), AV.d (D.int IntKind.i64 (4 : Int))]) fun r3 => bindB (resB 1 false 1 r3 0 0) fun b4 => some ([(false, [RL.d (D.bool !b4)])]) := (show C (k + 1) 159 [AV.d (D.int IntKind.i64 a0)] = evFnK P hs (C k) 159 k Try.f159 [AV.d (D.int IntKind.i64 a0)] by kernel_rfl).trans (F159.eq k (C k) a0)
theorem F160.eq (k : Nat) (call : CallF) (a0_0 : List UInt8) (a0_1 : Int) (a0_2 : Bool) : evFnK P hs call (160 : FuncId) k Try.f160 [AV.agg [AV.d (D.str a0_0), AV.d (D.int IntKind.i64 a0_1), AV.d (D.bool a0_2)]] = ite' ((↑a0_0.length : Int) == (1 : Int)) (ite' (!sLess a0_0 ([(97 : UInt8)] : List UInt8)) (ite' (sLess a0_0 ([(122 : UInt8)] : List UInt8) || a0_0 == ([(122 : UInt8)] : List UInt8)) (bindR (call 113 [AV.d (D.int IntKind.i64 a0_1), AV.d (D.int IntKind.i64 (1 : Int)), AV.d (D.int IntKind.i64 (3 : Int))]) fun r5 => bindB (resB 1 false 1 r5 0 0) fun b6 => some ([(false, [RL.d (D.bool b6)])])) (some ([(false, [RL.d (D.bool false)])]))) (some ([(false, [RL.d (D.bool false)])]))) (some ([(false, [RL.d (D.bool false)])])) := by kernel_rfl
theorem F160.run (k : Nat) (a0_0 : List UInt8) (a0_1 : Int) (a0_2 : Bool) : C (k + 1) 160 [AV.agg [AV.d (D.str a0_0), AV.d (D.int IntKind.i64 a0_1), AV.d (D.bool a0_2)]] = ite' ((↑a0_0.length : Int) == (1 : Int)) (ite' (!sLess a0_0 ([(97 : UInt8)] : List UInt8)) (ite' (sLess a0_0 ([(122 : UInt8)] : List UInt8) || a0_0 == ([(122 : UInt8)] : List UInt8)) (bindR ((C k) 113 [AV.d (D.int IntKind.i64 a0_1), AV.d (D.int IntKind.i64 (1 : Int)), AV.d (D.int IntKind.i64 (3 : Int))]) fun r5 => bindB (resB 1 false 1 r5 0 0) fun b6 => some ([(false, [RL.d (D.bool b6)])])) (some ([(false, [RL.d (D.bool false)])]))) (some ([(false, [RL.d (D.bool false)])]))) (some ([(false, [RL.d (D.bool false)])])) := (show C (k + 1) 160 [AV.agg [AV.d (D.str a0_0), AV.d (D.int IntKind.i64 a0_1), AV.d (D.bool a0_2)]] = evFnK P hs (C k) 160 k Try.f160 [AV.agg [AV.d (D.str a0_0), AV.d (D.int IntKind.i64 a0_1), AV.d (D.bool a0_2)]] by kernel_rfl).trans (F160.eq k (C k) a0_0 a0_1 a0_2)

end Go.Proofs.Ytekcjghbfbfmpaa.Q4

/-! Shelf1 -/
/-
  DERIVED: THE SHELF's CONTRACTS AT THIS DUMP, IN PLAIN WORDS (tools/lay-plain.mjs out of 'TryShelf.lean', which tools/lay-shelf.mjs wrote): THE SAME DECLARATIONS UNDER THE SAME NAMES: 'import', 'namespace', 'open', 'def', 'theorem' AND NOTHING ELSE: no command of the shelf's: FOR A HAND-IN. Each laying: the table of numbers ('.._ren') and one theorem, a field a fact of the dump's own or the kernel's comparison; each contract: ONE APPLICATION.
-/
namespace Go.Proofs
open Go.Shelf
def Try.lays189_ren : Go.Shelf.Ren := ⟨fun | 189 => 111 | 125 => 157 | 257 => 156 | 128 => 186 | 129 => 187 | 294 => 177 | 295 => 178 | 296 => 179 | 297 => 180 | 298 => 181 | 299 => 182 | 216 => 183 | 300 => 184 | 301 => 185 | 328 => 199 | 329 => 200 | 330 => 201 | 331 => 202 | 332 => 203 | 215 => 188 | 343 => 207 | n => n, fun | 28 => 22 | 3 => 3 | 46 => 171 | 0 => 0 | 51 => 189 | 53 => 191 | 4 => 4 | 183 => 182 | 182 => 181 | 131 => 127 | 5 => 5 | 9 => 9 | 218 => 198 | 222 => 202 | 228 => 206 | 229 => 207 | n => n, fun | n => n⟩
theorem Try.lays189 : Go.Proofs.Lays.n189 Try.prog Try.lays189_ren := {
  mixed := by kernel_rfl
  f125 := Try.func157.trans (congrArg some (by kernel_rfl))
  f128 := Try.func186.trans (congrArg some (by kernel_rfl))
  f129 := Try.func187.trans (congrArg some (by kernel_rfl))
  f189 := Try.func111.trans (congrArg some (by kernel_rfl))
  f215 := Try.func188.trans (congrArg some (by kernel_rfl))
  f216 := Try.func183.trans (congrArg some (by kernel_rfl))
  f257 := Try.func156.trans (congrArg some (by kernel_rfl))
  f294 := Try.func177.trans (congrArg some (by kernel_rfl))
  f295 := Try.func178.trans (congrArg some (by kernel_rfl))
  f296 := Try.func179.trans (congrArg some (by kernel_rfl))
  f297 := Try.func180.trans (congrArg some (by kernel_rfl))
  f298 := Try.func181.trans (congrArg some (by kernel_rfl))
  f299 := Try.func182.trans (congrArg some (by kernel_rfl))
  f300 := Try.func184.trans (congrArg some (by kernel_rfl))
  f301 := Try.func185.trans (congrArg some (by kernel_rfl))
  f328 := Try.func199.trans (congrArg some (by kernel_rfl))
  f329 := Try.func200.trans (congrArg some (by kernel_rfl))
  f330 := Try.func201.trans (congrArg some (by kernel_rfl))
  f331 := Try.func202.trans (congrArg some (by kernel_rfl))
  f332 := Try.func203.trans (congrArg some (by kernel_rfl))
  f343 := Try.func207.trans (congrArg some (by kernel_rfl))
  t0 := Try.underlying0
  a0 := Try.isAgg0
  z0 := Try.sizeOf0
  v0 := Try.zeroValue0
  t3 := Try.underlying3
  a3 := Try.isAgg3
  z3 := Try.sizeOf3
  v3 := Try.zeroValue3
  t4 := Try.underlying4
  a4 := Try.isAgg4
  z4 := Try.sizeOf4
  v4 := Try.zeroValue4
  t5 := Try.underlying5
  a5 := Try.isAgg5
  z5 := Try.sizeOf5
  v5 := Try.zeroValue5
  t9 := Try.underlying9
  a9 := Try.isAgg9
  z9 := Try.sizeOf9
  v9 := Try.zeroValue9
  t28 := Try.underlying22
  a28 := Try.isAgg22
  z28 := Try.sizeOf22
  v28 := Try.zeroValue22
  t46 := Try.underlying171
  a46 := Try.isAgg171
  z46 := Try.sizeOf171
  v46 := Try.zeroValue171
  t51 := Try.underlying189
  a51 := Try.isAgg189
  z51 := Try.sizeOf189
  v51 := Try.zeroValue189
  t53 := Try.underlying191
  a53 := Try.isAgg191
  z53 := Try.sizeOf191
  v53 := Try.zeroValue191
  t131 := Try.underlying127
  a131 := Try.isAgg127
  z131 := Try.sizeOf127
  v131 := Try.zeroValue127
  t182 := Try.underlying181
  a182 := Try.isAgg181
  z182 := Try.sizeOf181
  v182 := Try.zeroValue181
  t183 := Try.underlying182
  a183 := Try.isAgg182
  z183 := Try.sizeOf182
  v183 := Try.zeroValue182
  t218 := Try.underlying198
  a218 := Try.isAgg198
  z218 := Try.sizeOf198
  v218 := Try.zeroValue198
  t222 := Try.underlying202
  a222 := Try.isAgg202
  z222 := Try.sizeOf202
  v222 := Try.zeroValue202
  t228 := Try.underlying206
  a228 := Try.isAgg206
  z228 := Try.sizeOf206
  v228 := Try.zeroValue206
  t229 := Try.underlying207
  a229 := Try.isAgg207
  z229 := Try.sizeOf207
  v229 := Try.zeroValue207 }
def Try.lays2n20_ren : Go.Shelf.Ren := ⟨fun | 20 => 112 | n => n, fun | 22 => 22 | 3 => 3 | 4 => 4 | 0 => 0 | n => n, fun | n => n⟩
theorem Try.lays2n20 : Go.Proofs.Lays2.n20 Try.prog Try.lays2n20_ren := {
  mixed := by kernel_rfl
  f20 := Try.func112.trans (congrArg some (by kernel_rfl))
  t0 := Try.underlying0
  a0 := Try.isAgg0
  z0 := Try.sizeOf0
  v0 := Try.zeroValue0
  t3 := Try.underlying3
  a3 := Try.isAgg3
  z3 := Try.sizeOf3
  v3 := Try.zeroValue3
  t4 := Try.underlying4
  a4 := Try.isAgg4
  z4 := Try.sizeOf4
  v4 := Try.zeroValue4
  t22 := Try.underlying22
  a22 := Try.isAgg22
  z22 := Try.sizeOf22
  v22 := Try.zeroValue22
  i3 := by kernel_rfl }
end Go.Proofs

/-! G4 -/
namespace Go.Proofs.Ytekcjghbfbfmpaa.Q4
open Go Ovi
/-- laws.toIntS -/
theorem l29 {k : Nat} (hk : 2000000 ≤ k) {a : Ovi.Rows} (ha : Fit (.list [.int .i64]) (.list 1 a)) (hs : szR a ≤ 1048576) : ∀ (m i n : Nat) (v : Ovi.Rows), Filled a v i 1 → i + m = a.length → m < n → F29.L3 k (C k) n a (i : Int) v = some [(false, [.row 3 1 a])] := by
  have hlen := ha.len
  intro m; induction m with
  | zero =>
    intro i n v hv hm hn
    obtain ⟨n, rfl⟩ : ∃ j, n = j + 1 := ⟨n - 1, by omega⟩
    obtain rfl : i = a.length := by omega
    rw [F29.L3.succ, ite'_f (lt_f (by omega)), hv.done]
  | succ m ih =>
    intro i n v hv hm hn
    obtain ⟨n, rfl⟩ : ∃ j, n = j + 1 := ⟨n - 1, by omega⟩
    obtain ⟨row, hr, hfr, hdr⟩ := ha.row (i := i) (by omega)
    obtain ⟨d0, rr0, rfl, hd0, hfr0⟩ := Fits.cons hfr
    obtain ⟨x0, rfl, wx0⟩ := hd0.int
    obtain rfl := Fits.nil hfr0
    have hst := hv.step hr rfl
    have hvl := hv.1
    have hszr := szR_at hr
    rw [F29.L3.succ, ite'_t (lt_t (by omega)), ite'_t (inR_t (by omega))]
    simp only [Int.toNat_natCast, cellI_at hr, cellB_at hr, cellS_at hr, cellL_at hr]
    simp only [List.getElem?_cons_zero, List.getElem?_cons_succ, Option.bind_some, asI_s, asB_s, asS_s, asL_s, bindI_s, bindB_s, bindS_s, bindL_s, bindR_s, resI_s, resB_s, resS_s, resO_s, bne_self_eq_false, beq_self_eq_true, Bool.not_true]
    rw [ite'_t (inR_t (by omega)), wrap_succ (m := a.length) (by omega) (by omega) hlen]
    rw [show ((i : Int) + 1) = ((i + 1 : Nat) : Int) by omega]
    exact ih (i + 1) n _ hst (by omega) (by omega)
theorem c29 {k : Nat} (hk : 2000001 ≤ k) {a : Ovi.Rows} (ha : Fit (.list [.int .i64]) (.list 1 a)) (hs : szD (.list 1 a) ≤ 1048576) : C k 29 [.d (.list 1 a)] = some [(false, [.row 3 1 a])] := by
  obtain ⟨k, rfl⟩ : ∃ j, k = j + 1 := ⟨k - 1, by omega⟩
  simp only [szD] at hs
  rw [F29.run, ite'_t (beq_t _), ite'_t (inM_t (by omega))]
  exact l29 (k := k) (by omega) ha (by omega) a.length 0 k _ (Filled.start a _) (by omega) (by omega)
/-- laws.eqIntS -/
theorem l32 {k : Nat} (hk : 2000000 ≤ k) {a : Ovi.Rows} (ha : Fit (.list [.int .i64]) (.list 1 a)) (hs : szR a ≤ 1048576) : ∀ (m i n : Nat), i + m = a.length → m < n → F32.L4 k (C k) n a a (i : Int) = some [(false, [.d (.bool true)])] := by
  have hlen := ha.len
  intro m; induction m with
  | zero =>
    intro i n hm hn
    obtain ⟨n, rfl⟩ : ∃ j, n = j + 1 := ⟨n - 1, by omega⟩
    rw [F32.L4.succ, ite'_f (lt_f (by omega))]
  | succ m ih =>
    intro i n hm hn
    obtain ⟨n, rfl⟩ : ∃ j, n = j + 1 := ⟨n - 1, by omega⟩
    obtain ⟨row, hr, hfr, hdr⟩ := ha.row (i := i) (by omega)
    obtain ⟨d0, rr0, rfl, hd0, hfr0⟩ := Fits.cons hfr
    obtain ⟨x0, rfl, wx0⟩ := hd0.int
    obtain rfl := Fits.nil hfr0
    have hszr := szR_at hr
    rw [F32.L4.succ, ite'_t (lt_t (by omega)), ite'_t (inR_t (by omega))]
    simp only [Int.toNat_natCast, cellI_at hr, cellB_at hr, cellS_at hr, cellL_at hr]
    simp only [List.getElem?_cons_zero, List.getElem?_cons_succ, Option.bind_some, asI_s, asB_s, asS_s, asL_s, bindI_s, bindB_s, bindS_s, bindL_s, bindR_s, resI_s, resB_s, resS_s, resO_s, bne_self_eq_false, beq_self_eq_true, Bool.not_true]
    rw [ite'_t (inR_t (by omega))]
    rw [ite'_f rfl, wrap_succ (m := a.length) (by omega) (by omega) hlen]
    rw [show ((i : Int) + 1) = ((i + 1 : Nat) : Int) by omega]
    exact ih (i + 1) n (by omega) (by omega)
theorem c32 {k : Nat} (hk : 2000001 ≤ k) {a : Ovi.Rows} (ha : Fit (.list [.int .i64]) (.list 1 a)) (hs : szD (.list 1 a) ≤ 1048576) : C k 32 [.d (.list 1 a), .d (.list 1 a)] = some [(false, [.d (.bool true)])] := by
  obtain ⟨k, rfl⟩ : ∃ j, k = j + 1 := ⟨k - 1, by omega⟩
  simp only [szD] at hs
  rw [F32.run, ite'_f (bne_f _)]
  exact l32 (k := k) (by omega) ha (by omega) a.length 0 k (by omega) (by omega)
/-- laws.szIntS -/
theorem c52 {k : Nat} (hk : 2000001 ≤ k) {a : Ovi.Rows} (ha : Fit (.list [.int .i64]) (.list 1 a)) {left : Int} (h0 : 0 ≤ left) (h1 : left ≤ 1048576) : C k 52 [.d (.list 1 a), .d (.int .i64 left)] = some [(false, [.d (.int .i64 (szT left (szD (.list 1 a))))])] := by
  obtain ⟨k, rfl⟩ : ∃ j, k = j + 1 := ⟨k - 1, by omega⟩
  have hlen := ha.len; unfold maxLen at hlen
  have hz : szR a = 0 := by
    clear hlen h0 h1
    induction a with
    | nil => rfl
    | cons r rs ih =>
      simp only [Fit, List.length_cons, List.mem_cons, forall_eq_or_imp] at ha
      obtain ⟨q1, q2, hfr, q4⟩ := ha
      obtain ⟨d0, rr0, rfl, hd0, hfr0⟩ := Fits.cons hfr
      obtain ⟨x0, rfl, wx0⟩ := hd0.int
      obtain rfl := Fits.nil hfr0
      simp only [szR, szC, szD]
      rw [ih (by simp only [Fit]; exact ⟨q1, by omega, q4⟩)]
  rw [F52.run, wrap_id (by omega) (by omega)]
  simp only [szD, hz, Nat.add_zero]
  rcases szT_cases left a.length with ⟨q, e⟩ | ⟨q, e⟩ <;> rw [e]
  · rw [ite'_f (neg_f (by omega))]
  · rw [ite'_t (by simp only [decide_eq_true_eq]; omega)]
/-- laws.szRelation -/
theorem c61 {k : Nat} (hk : 2000001 ≤ k) {a0 : List UInt8} (ha0 : a0.length ≤ maxLen) {a1 : Int} {a2 : Bool} {left : Int} (h0 : 0 ≤ left) (h1 : left ≤ 1048576) : C k 61 [.agg [.d (.str a0), .d (.int .i64 a1), .d (.bool a2)], .d (.int .i64 left)] = some [(false, [.d (.int .i64 (szT left (szC [.str a0, .int .i64 a1, .bool a2])))])] := by
  obtain ⟨k, rfl⟩ : ∃ j, k = j + 1 := ⟨k - 1, by omega⟩
  have eT : szC [.str a0, .int .i64 a1, .bool a2] = ((a0.length : Nat)) := by simp only [szC, szD] <;> omega
  rw [eT, F61.run]
  unfold maxLen at ha0
  rw [wrap_id (n := left - (a0.length : Int)) (by omega) (by omega)]
  rcases szT_cases (left) ((a0.length : Nat)) with ⟨q0, e0⟩ | ⟨q0, e0⟩
  rotate_left
  · rw [ite'_t (by simp only [decide_eq_true_eq]; omega)] <;> first | rfl | rw [szT_neg (by omega)]
  rw [ite'_f (neg_f (by omega))] <;> first | rfl | (rw [szT_pos (by omega)] <;> (congr 6 <;> omega))
/-- laws.toRelation -/
theorem F66x0 {a0 : List UInt8} {a1 : Int} {a2 : Bool} : resS 1 true 3 [(true, [.d (.str a0), .d (.int .i64 a1), .d (.bool a2)])] 0 0 = some a0 := rfl
theorem F66x1 {a0 : List UInt8} {a1 : Int} {a2 : Bool} : resI .i64 1 true 3 [(true, [.d (.str a0), .d (.int .i64 a1), .d (.bool a2)])] 0 1 = some a1 := rfl
theorem F66x2 {a0 : List UInt8} {a1 : Int} {a2 : Bool} : resB 1 true 3 [(true, [.d (.str a0), .d (.int .i64 a1), .d (.bool a2)])] 0 2 = some a2 := rfl
theorem c66 {k : Nat} (hk : 2000001 ≤ k) {a0 : List UInt8} (ha0 : a0.length ≤ maxLen) {a1 : Int} {a2 : Bool}  : C k 66 [.agg [.d (.str a0), .d (.int .i64 a1), .d (.bool a2)]] = some [(true, [.d (.str a0), .d (.int .i64 a1), .d (.bool a2)])] := by
  obtain ⟨k, rfl⟩ : ∃ j, k = j + 1 := ⟨k - 1, by omega⟩
  rw [F66.run]
/-- laws.eqRelation -/
theorem c72 {k : Nat} (hk : 2000001 ≤ k) {a0 : List UInt8} (ha0 : a0.length ≤ maxLen) {a1 : Int} {a2 : Bool}  : C k 72 [.agg [.d (.str a0), .d (.int .i64 a1), .d (.bool a2)], .agg [.d (.str a0), .d (.int .i64 a1), .d (.bool a2)]] = some [(false, [.d (.bool true)])] := by
  obtain ⟨k, rfl⟩ : ∃ j, k = j + 1 := ⟨k - 1, by omega⟩
  rw [F72.run]
  simp only [List.getElem?_cons_zero, List.getElem?_cons_succ, Option.bind_some, asI_s, asB_s, asS_s, asL_s, bindI_s, bindB_s, bindS_s, bindL_s, bindR_s, resI_s, resB_s, resS_s, resO_s, bne_self_eq_false, beq_self_eq_true, Bool.not_true]
  rfl
/-- laws.szRelationS -/
theorem l16 {k : Nat} (hk : 2000001 ≤ k) {a : Ovi.Rows} (ha : Fit (.list [.str, .int .i64, .bool]) (.list 3 a)) : ∀ (m i n : Nat) (left : Int), 0 ≤ left → left ≤ 1048576 → i + m = a.length → m < n → F16.L5 k (C k) n a left (i : Int) = some [(false, [.d (.int .i64 (szT left (szR (a.drop i))))])] := by
  have hlen := ha.len
  intro m; induction m with
  | zero =>
    intro i n left h0 h1 hm hn
    obtain ⟨n, rfl⟩ : ∃ j, n = j + 1 := ⟨n - 1, by omega⟩
    rw [F16.L5.succ, ite'_f (lt_f (by omega)), List.drop_eq_nil_of_le (by omega)]
    simp only [szR, szT_pos (left := left) (s := 0) (by omega)]
    simp
  | succ m ih =>
    intro i n left h0 h1 hm hn
    obtain ⟨n, rfl⟩ : ∃ j, n = j + 1 := ⟨n - 1, by omega⟩
    obtain ⟨row, hr, hfr, hdr⟩ := ha.row (i := i) (by omega)
    obtain ⟨d0, rr0, rfl, hd0, hfr0⟩ := Fits.cons hfr
    obtain ⟨x0, rfl, hx0⟩ := hd0.str
    obtain ⟨d1, rr1, rfl, hd1, hfr1⟩ := Fits.cons hfr0
    obtain ⟨x1, rfl, wx1⟩ := hd1.int
    obtain ⟨d2, rr2, rfl, hd2, hfr2⟩ := Fits.cons hfr1
    obtain ⟨x2, rfl⟩ := hd2.bool
    obtain rfl := Fits.nil hfr2
    have eR : szR (a.drop i) = szC [.str x0, .int .i64 x1, .bool x2] + szR (a.drop (i + 1)) := by rw [hdr]; rfl
    rw [F16.L5.succ, ite'_t (lt_t (by omega)), ite'_t (inR_t (by omega)), eR]
    simp only [Int.toNat_natCast, cellI_at hr, cellB_at hr, cellS_at hr, cellL_at hr]
    simp only [List.getElem?_cons_zero, List.getElem?_cons_succ, Option.bind_some, asI_s, asB_s, asS_s, asL_s, bindI_s, bindB_s, bindS_s, bindL_s, bindR_s, resI_s, resB_s, resS_s, resO_s, bne_self_eq_false, beq_self_eq_true, Bool.not_true]
    have cc := c61 (k := k) (by omega) (a1 := x1) (a2 := x2) hx0 h0 h1
    rw [cc]
    simp only [List.getElem?_cons_zero, List.getElem?_cons_succ, Option.bind_some, asI_s, asB_s, asS_s, asL_s, bindI_s, bindB_s, bindS_s, bindL_s, bindR_s, resI_s, resB_s, resS_s, resO_s, bne_self_eq_false, beq_self_eq_true, Bool.not_true]
    rcases szT_cases left (szC [.str x0, .int .i64 x1, .bool x2]) with ⟨q, e⟩ | ⟨q, e⟩ <;> rw [e]
    · rw [ite'_f (neg_f (by omega)), wrap_succ (m := a.length) (by omega) (by omega) hlen]
      have := ih (i + 1) n (left - ((szC [.str x0, .int .i64 x1, .bool x2] : Nat) : Int)) (by omega) (by omega) (by omega) (by omega)
      rw [show ((i : Int) + 1) = ((i + 1 : Nat) : Int) by omega, this]
      rcases szT_cases (left - ((szC [.str x0, .int .i64 x1, .bool x2] : Nat) : Int)) (szR (a.drop (i + 1))) with ⟨q2, e2⟩ | ⟨q2, e2⟩ <;> rw [e2]
      · rw [szT_pos (by omega)] <;> (congr 6 <;> omega)
      · rw [szT_neg (by omega)]
    · rw [ite'_t neg_t, szT_neg (by omega)]
theorem c16 {k : Nat} (hk : 2000002 ≤ k) {a : Ovi.Rows} (ha : Fit (.list [.str, .int .i64, .bool]) (.list 3 a)) {left : Int} (h0 : 0 ≤ left) (h1 : left ≤ 1048576) : C k 16 [.d (.list 3 a), .d (.int .i64 left)] = some [(false, [.d (.int .i64 (szT left (szD (.list 3 a))))])] := by
  obtain ⟨k, rfl⟩ : ∃ j, k = j + 1 := ⟨k - 1, by omega⟩
  have hlen := ha.len; unfold maxLen at hlen
  rw [F16.run, wrap_id (by omega) (by omega)]
  have eD : szD (.list 3 a) = a.length + szR a := by simp only [szD]
  rw [eD]
  rcases szT_cases left a.length with ⟨q, e⟩ | ⟨q, e⟩
  · rw [ite'_f (neg_f (by omega))]
    have := l16 (k := k) (by omega) ha a.length 0 k (left - (a.length : Int)) (by omega) (by omega) (by omega) (by omega)
    rw [List.drop_zero] at this
    rw [show ((0 : Int)) = ((0 : Nat) : Int) by rfl, this]
    rcases szT_cases (left - (a.length : Int)) (szR a) with ⟨q2, e2⟩ | ⟨q2, e2⟩ <;> rw [e2]
    · rw [szT_pos (by omega)] <;> (congr 6 <;> omega)
    · rw [szT_neg (by omega)]
  · rw [ite'_t (by simp only [decide_eq_true_eq]; omega), szT_neg (by omega)]
/-- laws.toRelationS -/
theorem l18 {k : Nat} (hk : 2000001 ≤ k) {a : Ovi.Rows} (ha : Fit (.list [.str, .int .i64, .bool]) (.list 3 a)) (hs : szR a ≤ 1048576) : ∀ (m i n : Nat) (v : Ovi.Rows), Filled a v i 3 → i + m = a.length → m < n → F18.L3 k (C k) n a (i : Int) v = some [(false, [.row 104 3 a])] := by
  have hlen := ha.len
  intro m; induction m with
  | zero =>
    intro i n v hv hm hn
    obtain ⟨n, rfl⟩ : ∃ j, n = j + 1 := ⟨n - 1, by omega⟩
    obtain rfl : i = a.length := by omega
    rw [F18.L3.succ, ite'_f (lt_f (by omega)), hv.done]
  | succ m ih =>
    intro i n v hv hm hn
    obtain ⟨n, rfl⟩ : ∃ j, n = j + 1 := ⟨n - 1, by omega⟩
    obtain ⟨row, hr, hfr, hdr⟩ := ha.row (i := i) (by omega)
    obtain ⟨d0, rr0, rfl, hd0, hfr0⟩ := Fits.cons hfr
    obtain ⟨x0, rfl, hx0⟩ := hd0.str
    obtain ⟨d1, rr1, rfl, hd1, hfr1⟩ := Fits.cons hfr0
    obtain ⟨x1, rfl, wx1⟩ := hd1.int
    obtain ⟨d2, rr2, rfl, hd2, hfr2⟩ := Fits.cons hfr1
    obtain ⟨x2, rfl⟩ := hd2.bool
    obtain rfl := Fits.nil hfr2
    have hst := hv.step hr rfl
    have hvl := hv.1
    have hszr := szR_at hr
    rw [F18.L3.succ, ite'_t (lt_t (by omega)), ite'_t (inR_t (by omega))]
    simp only [Int.toNat_natCast, cellI_at hr, cellB_at hr, cellS_at hr, cellL_at hr]
    simp only [List.getElem?_cons_zero, List.getElem?_cons_succ, Option.bind_some, asI_s, asB_s, asS_s, asL_s, bindI_s, bindB_s, bindS_s, bindL_s, bindR_s, resI_s, resB_s, resS_s, resO_s, bne_self_eq_false, beq_self_eq_true, Bool.not_true]
    rw [c66 (k := k) (by omega) (a1 := x1) (a2 := x2) hx0 ]
    simp only [List.getElem?_cons_zero, List.getElem?_cons_succ, Option.bind_some, asI_s, asB_s, asS_s, asL_s, bindI_s, bindB_s, bindS_s, bindL_s, bindR_s, resI_s, resB_s, resS_s, resO_s, bne_self_eq_false, beq_self_eq_true, Bool.not_true]
    simp only [F66x0, F66x1, F66x2]
    simp only [List.getElem?_cons_zero, List.getElem?_cons_succ, Option.bind_some, asI_s, asB_s, asS_s, asL_s, bindI_s, bindB_s, bindS_s, bindL_s, bindR_s, resI_s, resB_s, resS_s, resO_s, bne_self_eq_false, beq_self_eq_true, Bool.not_true]
    rw [ite'_t (inR_t (by omega)), wrap_succ (m := a.length) (by omega) (by omega) hlen]
    rw [show ((i : Int) + 1) = ((i + 1 : Nat) : Int) by omega]
    exact ih (i + 1) n _ hst (by omega) (by omega)
theorem c18 {k : Nat} (hk : 2000002 ≤ k) {a : Ovi.Rows} (ha : Fit (.list [.str, .int .i64, .bool]) (.list 3 a)) (hs : szD (.list 3 a) ≤ 1048576) : C k 18 [.d (.list 3 a)] = some [(false, [.row 104 3 a])] := by
  obtain ⟨k, rfl⟩ : ∃ j, k = j + 1 := ⟨k - 1, by omega⟩
  simp only [szD] at hs
  rw [F18.run, ite'_t (beq_t _), ite'_t (inM_t (by omega))]
  exact l18 (k := k) (by omega) ha (by omega) a.length 0 k _ (Filled.start a _) (by omega) (by omega)
/-- laws.eqRelationS -/
theorem l20 {k : Nat} (hk : 2000001 ≤ k) {a : Ovi.Rows} (ha : Fit (.list [.str, .int .i64, .bool]) (.list 3 a)) (hs : szR a ≤ 1048576) : ∀ (m i n : Nat), i + m = a.length → m < n → F20.L4 k (C k) n a a (i : Int) = some [(false, [.d (.bool true)])] := by
  have hlen := ha.len
  intro m; induction m with
  | zero =>
    intro i n hm hn
    obtain ⟨n, rfl⟩ : ∃ j, n = j + 1 := ⟨n - 1, by omega⟩
    rw [F20.L4.succ, ite'_f (lt_f (by omega))]
  | succ m ih =>
    intro i n hm hn
    obtain ⟨n, rfl⟩ : ∃ j, n = j + 1 := ⟨n - 1, by omega⟩
    obtain ⟨row, hr, hfr, hdr⟩ := ha.row (i := i) (by omega)
    obtain ⟨d0, rr0, rfl, hd0, hfr0⟩ := Fits.cons hfr
    obtain ⟨x0, rfl, hx0⟩ := hd0.str
    obtain ⟨d1, rr1, rfl, hd1, hfr1⟩ := Fits.cons hfr0
    obtain ⟨x1, rfl, wx1⟩ := hd1.int
    obtain ⟨d2, rr2, rfl, hd2, hfr2⟩ := Fits.cons hfr1
    obtain ⟨x2, rfl⟩ := hd2.bool
    obtain rfl := Fits.nil hfr2
    have hszr := szR_at hr
    rw [F20.L4.succ, ite'_t (lt_t (by omega)), ite'_t (inR_t (by omega))]
    simp only [Int.toNat_natCast, cellI_at hr, cellB_at hr, cellS_at hr, cellL_at hr]
    simp only [List.getElem?_cons_zero, List.getElem?_cons_succ, Option.bind_some, asI_s, asB_s, asS_s, asL_s, bindI_s, bindB_s, bindS_s, bindL_s, bindR_s, resI_s, resB_s, resS_s, resO_s, bne_self_eq_false, beq_self_eq_true, Bool.not_true]
    rw [ite'_t (inR_t (by omega))]
    rw [c72 (k := k) (by omega) (a1 := x1) (a2 := x2) hx0 ]
    simp only [List.getElem?_cons_zero, List.getElem?_cons_succ, Option.bind_some, asI_s, asB_s, asS_s, asL_s, bindI_s, bindB_s, bindS_s, bindL_s, bindR_s, resI_s, resB_s, resS_s, resO_s, bne_self_eq_false, beq_self_eq_true, Bool.not_true]
    rw [ite'_f rfl, wrap_succ (m := a.length) (by omega) (by omega) hlen]
    rw [show ((i : Int) + 1) = ((i + 1 : Nat) : Int) by omega]
    exact ih (i + 1) n (by omega) (by omega)
theorem c20 {k : Nat} (hk : 2000002 ≤ k) {a : Ovi.Rows} (ha : Fit (.list [.str, .int .i64, .bool]) (.list 3 a)) (hs : szD (.list 3 a) ≤ 1048576) : C k 20 [.d (.list 3 a), .d (.list 3 a)] = some [(false, [.d (.bool true)])] := by
  obtain ⟨k, rfl⟩ : ∃ j, k = j + 1 := ⟨k - 1, by omega⟩
  simp only [szD] at hs
  rw [F20.run, ite'_f (bne_f _)]
  exact l20 (k := k) (by omega) ha (by omega) a.length 0 k (by omega) (by omega)
/-- laws.szAtom -/
theorem c106 {k : Nat} (hk : 2000002 ≤ k) {a0 : Int} {a1 : Ovi.Rows} (ha1 : Fit (.list [.int .i64]) (.list 1 a1)) {left : Int} (h0 : 0 ≤ left) (h1 : left ≤ 1048576) : C k 106 [.agg [.d (.int .i64 a0), .d (.list 1 a1)], .d (.int .i64 left)] = some [(false, [.d (.int .i64 (szT left (szC [.int .i64 a0, .list 1 a1])))])] := by
  obtain ⟨k, rfl⟩ : ∃ j, k = j + 1 := ⟨k - 1, by omega⟩
  have eT : szC [.int .i64 a0, .list 1 a1] = (szD (.list 1 a1)) := by simp only [szC, szD] <;> omega
  rw [eT, F106.run]
  rw [c52 (k := k) (by omega)  ha1 (left := left) (by omega) (by omega)]
  simp only [List.getElem?_cons_zero, List.getElem?_cons_succ, Option.bind_some, asI_s, asB_s, asS_s, asL_s, bindI_s, bindB_s, bindS_s, bindL_s, bindR_s, resI_s, resB_s, resS_s, resO_s, bne_self_eq_false, beq_self_eq_true, Bool.not_true]
  rcases szT_cases (left) (szD (.list 1 a1)) with ⟨q0, e0⟩ | ⟨q0, e0⟩ <;> rw [e0]
  rotate_left
  · rw [ite'_t (by simp only [decide_eq_true_eq]; omega)] <;> first | rfl | rw [szT_neg (by omega)]
  rw [ite'_f (neg_f (by omega))] <;> first | rfl | (rw [szT_pos (by omega)] <;> (congr 6 <;> omega))
/-- laws.toAtom -/
theorem F107x0 {a0 : Int} {a1 : Ovi.Rows} : resI .i64 1 true 2 [(true, [.d (.int .i64 a0), .row 3 1 a1])] 0 0 = some a0 := rfl
theorem F107x1 {a0 : Int} {a1 : Ovi.Rows} : resO 3 1 1 true 2 [(true, [.d (.int .i64 a0), .row 3 1 a1])] 0 1 = some a1 := rfl
theorem c107 {k : Nat} (hk : 2000002 ≤ k) {a0 : Int} {a1 : Ovi.Rows} (ha1 : Fit (.list [.int .i64]) (.list 1 a1)) (s1 : szD (.list 1 a1) ≤ 1048576) : C k 107 [.agg [.d (.int .i64 a0), .d (.list 1 a1)]] = some [(true, [.d (.int .i64 a0), .row 3 1 a1])] := by
  obtain ⟨k, rfl⟩ : ∃ j, k = j + 1 := ⟨k - 1, by omega⟩
  rw [F107.run]
  rw [c29 (k := k) (by omega)  ha1 s1]
  simp only [List.getElem?_cons_zero, List.getElem?_cons_succ, Option.bind_some, asI_s, asB_s, asS_s, asL_s, bindI_s, bindB_s, bindS_s, bindL_s, bindR_s, resI_s, resB_s, resS_s, resO_s, bne_self_eq_false, beq_self_eq_true, Bool.not_true]
/-- laws.eqAtom -/
theorem c108 {k : Nat} (hk : 2000002 ≤ k) {a0 : Int} {a1 : Ovi.Rows} (ha1 : Fit (.list [.int .i64]) (.list 1 a1)) (s1 : szD (.list 1 a1) ≤ 1048576) : C k 108 [.agg [.d (.int .i64 a0), .d (.list 1 a1)], .agg [.d (.int .i64 a0), .d (.list 1 a1)]] = some [(false, [.d (.bool true)])] := by
  obtain ⟨k, rfl⟩ : ∃ j, k = j + 1 := ⟨k - 1, by omega⟩
  rw [F108.run]
  rw [c32 (k := k) (by omega)  ha1 s1]
  simp only [List.getElem?_cons_zero, List.getElem?_cons_succ, Option.bind_some, asI_s, asB_s, asS_s, asL_s, bindI_s, bindB_s, bindS_s, bindL_s, bindR_s, resI_s, resB_s, resS_s, resO_s, bne_self_eq_false, beq_self_eq_true, Bool.not_true]
  rfl
/-- laws.szAtomS -/
theorem l53 {k : Nat} (hk : 2000002 ≤ k) {a : Ovi.Rows} (ha : Fit (.list [.int .i64, .list [.int .i64]]) (.list 2 a)) : ∀ (m i n : Nat) (left : Int), 0 ≤ left → left ≤ 1048576 → i + m = a.length → m < n → F53.L5 k (C k) n a left (i : Int) = some [(false, [.d (.int .i64 (szT left (szR (a.drop i))))])] := by
  have hlen := ha.len
  intro m; induction m with
  | zero =>
    intro i n left h0 h1 hm hn
    obtain ⟨n, rfl⟩ : ∃ j, n = j + 1 := ⟨n - 1, by omega⟩
    rw [F53.L5.succ, ite'_f (lt_f (by omega)), List.drop_eq_nil_of_le (by omega)]
    simp only [szR, szT_pos (left := left) (s := 0) (by omega)]
    simp
  | succ m ih =>
    intro i n left h0 h1 hm hn
    obtain ⟨n, rfl⟩ : ∃ j, n = j + 1 := ⟨n - 1, by omega⟩
    obtain ⟨row, hr, hfr, hdr⟩ := ha.row (i := i) (by omega)
    obtain ⟨d0, rr0, rfl, hd0, hfr0⟩ := Fits.cons hfr
    obtain ⟨x0, rfl, wx0⟩ := hd0.int
    obtain ⟨d1, rr1, rfl, hd1, hfr1⟩ := Fits.cons hfr0
    obtain ⟨x1, rfl, hx1⟩ := hd1.list (n := 1) rfl
    obtain rfl := Fits.nil hfr1
    have eR : szR (a.drop i) = szC [.int .i64 x0, .list 1 x1] + szR (a.drop (i + 1)) := by rw [hdr]; rfl
    rw [F53.L5.succ, ite'_t (lt_t (by omega)), ite'_t (inR_t (by omega)), eR]
    simp only [Int.toNat_natCast, cellI_at hr, cellB_at hr, cellS_at hr, cellL_at hr]
    simp only [List.getElem?_cons_zero, List.getElem?_cons_succ, Option.bind_some, asI_s, asB_s, asS_s, asL_s, bindI_s, bindB_s, bindS_s, bindL_s, bindR_s, resI_s, resB_s, resS_s, resO_s, bne_self_eq_false, beq_self_eq_true, Bool.not_true]
    have cc := c106 (k := k) (by omega) (a0 := x0) hx1 h0 h1
    rw [cc]
    simp only [List.getElem?_cons_zero, List.getElem?_cons_succ, Option.bind_some, asI_s, asB_s, asS_s, asL_s, bindI_s, bindB_s, bindS_s, bindL_s, bindR_s, resI_s, resB_s, resS_s, resO_s, bne_self_eq_false, beq_self_eq_true, Bool.not_true]
    rcases szT_cases left (szC [.int .i64 x0, .list 1 x1]) with ⟨q, e⟩ | ⟨q, e⟩ <;> rw [e]
    · rw [ite'_f (neg_f (by omega)), wrap_succ (m := a.length) (by omega) (by omega) hlen]
      have := ih (i + 1) n (left - ((szC [.int .i64 x0, .list 1 x1] : Nat) : Int)) (by omega) (by omega) (by omega) (by omega)
      rw [show ((i : Int) + 1) = ((i + 1 : Nat) : Int) by omega, this]
      rcases szT_cases (left - ((szC [.int .i64 x0, .list 1 x1] : Nat) : Int)) (szR (a.drop (i + 1))) with ⟨q2, e2⟩ | ⟨q2, e2⟩ <;> rw [e2]
      · rw [szT_pos (by omega)] <;> (congr 6 <;> omega)
      · rw [szT_neg (by omega)]
    · rw [ite'_t neg_t, szT_neg (by omega)]
theorem c53 {k : Nat} (hk : 2000003 ≤ k) {a : Ovi.Rows} (ha : Fit (.list [.int .i64, .list [.int .i64]]) (.list 2 a)) {left : Int} (h0 : 0 ≤ left) (h1 : left ≤ 1048576) : C k 53 [.d (.list 2 a), .d (.int .i64 left)] = some [(false, [.d (.int .i64 (szT left (szD (.list 2 a))))])] := by
  obtain ⟨k, rfl⟩ : ∃ j, k = j + 1 := ⟨k - 1, by omega⟩
  have hlen := ha.len; unfold maxLen at hlen
  rw [F53.run, wrap_id (by omega) (by omega)]
  have eD : szD (.list 2 a) = a.length + szR a := by simp only [szD]
  rw [eD]
  rcases szT_cases left a.length with ⟨q, e⟩ | ⟨q, e⟩
  · rw [ite'_f (neg_f (by omega))]
    have := l53 (k := k) (by omega) ha a.length 0 k (left - (a.length : Int)) (by omega) (by omega) (by omega) (by omega)
    rw [List.drop_zero] at this
    rw [show ((0 : Int)) = ((0 : Nat) : Int) by rfl, this]
    rcases szT_cases (left - (a.length : Int)) (szR a) with ⟨q2, e2⟩ | ⟨q2, e2⟩ <;> rw [e2]
    · rw [szT_pos (by omega)] <;> (congr 6 <;> omega)
    · rw [szT_neg (by omega)]
  · rw [ite'_t (by simp only [decide_eq_true_eq]; omega), szT_neg (by omega)]
/-- laws.toAtomS -/
theorem l56 {k : Nat} (hk : 2000002 ≤ k) {a : Ovi.Rows} (ha : Fit (.list [.int .i64, .list [.int .i64]]) (.list 2 a)) (hs : szR a ≤ 1048576) : ∀ (m i n : Nat) (v : Ovi.Rows), Filled a v i 2 → i + m = a.length → m < n → F56.L3 k (C k) n a (i : Int) v = some [(false, [.row 95 2 a])] := by
  have hlen := ha.len
  intro m; induction m with
  | zero =>
    intro i n v hv hm hn
    obtain ⟨n, rfl⟩ : ∃ j, n = j + 1 := ⟨n - 1, by omega⟩
    obtain rfl : i = a.length := by omega
    rw [F56.L3.succ, ite'_f (lt_f (by omega)), hv.done]
  | succ m ih =>
    intro i n v hv hm hn
    obtain ⟨n, rfl⟩ : ∃ j, n = j + 1 := ⟨n - 1, by omega⟩
    obtain ⟨row, hr, hfr, hdr⟩ := ha.row (i := i) (by omega)
    obtain ⟨d0, rr0, rfl, hd0, hfr0⟩ := Fits.cons hfr
    obtain ⟨x0, rfl, wx0⟩ := hd0.int
    obtain ⟨d1, rr1, rfl, hd1, hfr1⟩ := Fits.cons hfr0
    obtain ⟨x1, rfl, hx1⟩ := hd1.list (n := 1) rfl
    obtain rfl := Fits.nil hfr1
    have hst := hv.step hr rfl
    have hvl := hv.1
    have hszr := szR_at hr
    rw [F56.L3.succ, ite'_t (lt_t (by omega)), ite'_t (inR_t (by omega))]
    simp only [Int.toNat_natCast, cellI_at hr, cellB_at hr, cellS_at hr, cellL_at hr]
    simp only [List.getElem?_cons_zero, List.getElem?_cons_succ, Option.bind_some, asI_s, asB_s, asS_s, asL_s, bindI_s, bindB_s, bindS_s, bindL_s, bindR_s, resI_s, resB_s, resS_s, resO_s, bne_self_eq_false, beq_self_eq_true, Bool.not_true]
    rw [c107 (k := k) (by omega) (a0 := x0) hx1 (by simp only [szC, szD] at hszr ⊢; omega)]
    simp only [List.getElem?_cons_zero, List.getElem?_cons_succ, Option.bind_some, asI_s, asB_s, asS_s, asL_s, bindI_s, bindB_s, bindS_s, bindL_s, bindR_s, resI_s, resB_s, resS_s, resO_s, bne_self_eq_false, beq_self_eq_true, Bool.not_true]
    simp only [F107x0, F107x1]
    simp only [List.getElem?_cons_zero, List.getElem?_cons_succ, Option.bind_some, asI_s, asB_s, asS_s, asL_s, bindI_s, bindB_s, bindS_s, bindL_s, bindR_s, resI_s, resB_s, resS_s, resO_s, bne_self_eq_false, beq_self_eq_true, Bool.not_true]
    rw [ite'_t (inR_t (by omega)), wrap_succ (m := a.length) (by omega) (by omega) hlen]
    rw [show ((i : Int) + 1) = ((i + 1 : Nat) : Int) by omega]
    exact ih (i + 1) n _ hst (by omega) (by omega)
theorem c56 {k : Nat} (hk : 2000003 ≤ k) {a : Ovi.Rows} (ha : Fit (.list [.int .i64, .list [.int .i64]]) (.list 2 a)) (hs : szD (.list 2 a) ≤ 1048576) : C k 56 [.d (.list 2 a)] = some [(false, [.row 95 2 a])] := by
  obtain ⟨k, rfl⟩ : ∃ j, k = j + 1 := ⟨k - 1, by omega⟩
  simp only [szD] at hs
  rw [F56.run, ite'_t (beq_t _), ite'_t (inM_t (by omega))]
  exact l56 (k := k) (by omega) ha (by omega) a.length 0 k _ (Filled.start a _) (by omega) (by omega)
/-- laws.eqAtomS -/
theorem l60 {k : Nat} (hk : 2000002 ≤ k) {a : Ovi.Rows} (ha : Fit (.list [.int .i64, .list [.int .i64]]) (.list 2 a)) (hs : szR a ≤ 1048576) : ∀ (m i n : Nat), i + m = a.length → m < n → F60.L4 k (C k) n a a (i : Int) = some [(false, [.d (.bool true)])] := by
  have hlen := ha.len
  intro m; induction m with
  | zero =>
    intro i n hm hn
    obtain ⟨n, rfl⟩ : ∃ j, n = j + 1 := ⟨n - 1, by omega⟩
    rw [F60.L4.succ, ite'_f (lt_f (by omega))]
  | succ m ih =>
    intro i n hm hn
    obtain ⟨n, rfl⟩ : ∃ j, n = j + 1 := ⟨n - 1, by omega⟩
    obtain ⟨row, hr, hfr, hdr⟩ := ha.row (i := i) (by omega)
    obtain ⟨d0, rr0, rfl, hd0, hfr0⟩ := Fits.cons hfr
    obtain ⟨x0, rfl, wx0⟩ := hd0.int
    obtain ⟨d1, rr1, rfl, hd1, hfr1⟩ := Fits.cons hfr0
    obtain ⟨x1, rfl, hx1⟩ := hd1.list (n := 1) rfl
    obtain rfl := Fits.nil hfr1
    have hszr := szR_at hr
    rw [F60.L4.succ, ite'_t (lt_t (by omega)), ite'_t (inR_t (by omega))]
    simp only [Int.toNat_natCast, cellI_at hr, cellB_at hr, cellS_at hr, cellL_at hr]
    simp only [List.getElem?_cons_zero, List.getElem?_cons_succ, Option.bind_some, asI_s, asB_s, asS_s, asL_s, bindI_s, bindB_s, bindS_s, bindL_s, bindR_s, resI_s, resB_s, resS_s, resO_s, bne_self_eq_false, beq_self_eq_true, Bool.not_true]
    rw [ite'_t (inR_t (by omega))]
    rw [c108 (k := k) (by omega) (a0 := x0) hx1 (by simp only [szC, szD] at hszr ⊢; omega)]
    simp only [List.getElem?_cons_zero, List.getElem?_cons_succ, Option.bind_some, asI_s, asB_s, asS_s, asL_s, bindI_s, bindB_s, bindS_s, bindL_s, bindR_s, resI_s, resB_s, resS_s, resO_s, bne_self_eq_false, beq_self_eq_true, Bool.not_true]
    rw [ite'_f rfl, wrap_succ (m := a.length) (by omega) (by omega) hlen]
    rw [show ((i : Int) + 1) = ((i + 1 : Nat) : Int) by omega]
    exact ih (i + 1) n (by omega) (by omega)
theorem c60 {k : Nat} (hk : 2000003 ≤ k) {a : Ovi.Rows} (ha : Fit (.list [.int .i64, .list [.int .i64]]) (.list 2 a)) (hs : szD (.list 2 a) ≤ 1048576) : C k 60 [.d (.list 2 a), .d (.list 2 a)] = some [(false, [.d (.bool true)])] := by
  obtain ⟨k, rfl⟩ : ∃ j, k = j + 1 := ⟨k - 1, by omega⟩
  simp only [szD] at hs
  rw [F60.run, ite'_f (bne_f _)]
  exact l60 (k := k) (by omega) ha (by omega) a.length 0 k (by omega) (by omega)
/-- laws.szQuery -/
theorem c11 {k : Nat} (hk : 2000004 ≤ k) {a0 : Ovi.Rows} (ha0 : Fit (.list [.int .i64]) (.list 1 a0)) {a1 : Ovi.Rows} (ha1 : Fit (.list [.int .i64, .list [.int .i64]]) (.list 2 a1)) {left : Int} (h0 : 0 ≤ left) (h1 : left ≤ 1048576) : C k 11 [.agg [.d (.list 1 a0), .d (.list 2 a1)], .d (.int .i64 left)] = some [(false, [.d (.int .i64 (szT left (szC [.list 1 a0, .list 2 a1])))])] := by
  obtain ⟨k, rfl⟩ : ∃ j, k = j + 1 := ⟨k - 1, by omega⟩
  have eT : szC [.list 1 a0, .list 2 a1] = (szD (.list 1 a0)) + (szD (.list 2 a1)) := by simp only [szC, szD] <;> omega
  rw [eT, F11.run]
  rw [c52 (k := k) (by omega)  ha0 (left := left) (by omega) (by omega)]
  simp only [List.getElem?_cons_zero, List.getElem?_cons_succ, Option.bind_some, asI_s, asB_s, asS_s, asL_s, bindI_s, bindB_s, bindS_s, bindL_s, bindR_s, resI_s, resB_s, resS_s, resO_s, bne_self_eq_false, beq_self_eq_true, Bool.not_true]
  rcases szT_cases (left) (szD (.list 1 a0)) with ⟨q0, e0⟩ | ⟨q0, e0⟩ <;> rw [e0]
  rotate_left
  · rw [ite'_t (by simp only [decide_eq_true_eq]; omega)] <;> first | rfl | rw [szT_neg (by omega)]
  rw [ite'_f (neg_f (by omega))]
  rw [c53 (k := k) (by omega)  ha1 (left := left - ((szD (.list 1 a0) : Nat) : Int)) (by omega) (by omega)]
  simp only [List.getElem?_cons_zero, List.getElem?_cons_succ, Option.bind_some, asI_s, asB_s, asS_s, asL_s, bindI_s, bindB_s, bindS_s, bindL_s, bindR_s, resI_s, resB_s, resS_s, resO_s, bne_self_eq_false, beq_self_eq_true, Bool.not_true]
  rcases szT_cases (left - ((szD (.list 1 a0) : Nat) : Int)) (szD (.list 2 a1)) with ⟨q1, e1⟩ | ⟨q1, e1⟩ <;> rw [e1]
  rotate_left
  · rw [ite'_t (by simp only [decide_eq_true_eq]; omega)] <;> first | rfl | rw [szT_neg (by omega)]
  rw [ite'_f (neg_f (by omega))] <;> first | rfl | (rw [szT_pos (by omega)] <;> (congr 6 <;> omega))
/-- laws.toQuery -/
theorem F13x0 {a0 : Ovi.Rows} {a1 : Ovi.Rows} : resO 3 1 1 true 2 [(true, [.row 3 1 a0, .row 95 2 a1])] 0 0 = some a0 := rfl
theorem F13x1 {a0 : Ovi.Rows} {a1 : Ovi.Rows} : resO 95 2 1 true 2 [(true, [.row 3 1 a0, .row 95 2 a1])] 0 1 = some a1 := rfl
theorem c13 {k : Nat} (hk : 2000004 ≤ k) {a0 : Ovi.Rows} (ha0 : Fit (.list [.int .i64]) (.list 1 a0)) {a1 : Ovi.Rows} (ha1 : Fit (.list [.int .i64, .list [.int .i64]]) (.list 2 a1)) (s0 : szD (.list 1 a0) ≤ 1048576) (s1 : szD (.list 2 a1) ≤ 1048576) : C k 13 [.agg [.d (.list 1 a0), .d (.list 2 a1)]] = some [(true, [.row 3 1 a0, .row 95 2 a1])] := by
  obtain ⟨k, rfl⟩ : ∃ j, k = j + 1 := ⟨k - 1, by omega⟩
  rw [F13.run]
  rw [c29 (k := k) (by omega)  ha0 s0]
  simp only [List.getElem?_cons_zero, List.getElem?_cons_succ, Option.bind_some, asI_s, asB_s, asS_s, asL_s, bindI_s, bindB_s, bindS_s, bindL_s, bindR_s, resI_s, resB_s, resS_s, resO_s, bne_self_eq_false, beq_self_eq_true, Bool.not_true]
  rw [c56 (k := k) (by omega)  ha1 s1]
  simp only [List.getElem?_cons_zero, List.getElem?_cons_succ, Option.bind_some, asI_s, asB_s, asS_s, asL_s, bindI_s, bindB_s, bindS_s, bindL_s, bindR_s, resI_s, resB_s, resS_s, resO_s, bne_self_eq_false, beq_self_eq_true, Bool.not_true]
/-- laws.eqQuery -/
theorem c15 {k : Nat} (hk : 2000004 ≤ k) {a0 : Ovi.Rows} (ha0 : Fit (.list [.int .i64]) (.list 1 a0)) {a1 : Ovi.Rows} (ha1 : Fit (.list [.int .i64, .list [.int .i64]]) (.list 2 a1)) (s0 : szD (.list 1 a0) ≤ 1048576) (s1 : szD (.list 2 a1) ≤ 1048576) : C k 15 [.agg [.d (.list 1 a0), .d (.list 2 a1)], .agg [.d (.list 1 a0), .d (.list 2 a1)]] = some [(false, [.d (.bool true)])] := by
  obtain ⟨k, rfl⟩ : ∃ j, k = j + 1 := ⟨k - 1, by omega⟩
  rw [F15.run]
  rw [c32 (k := k) (by omega)  ha0 s0]
  rw [c60 (k := k) (by omega)  ha1 s1]
  simp only [List.getElem?_cons_zero, List.getElem?_cons_succ, Option.bind_some, asI_s, asB_s, asS_s, asL_s, bindI_s, bindB_s, bindS_s, bindL_s, bindR_s, resI_s, resB_s, resS_s, resO_s, bne_self_eq_false, beq_self_eq_true, Bool.not_true]
  rfl
/-- laws.szInequalityQuery -/
theorem c21 {k : Nat} (hk : 2000005 ≤ k) {a0 : Ovi.Rows} (ha0 : Fit (.list [.int .i64]) (.list 1 a0)) {a1 : Ovi.Rows} (ha1 : Fit (.list [.int .i64, .list [.int .i64]]) (.list 2 a1)) {a2 : Int} {a3 : Int} {left : Int} (h0 : 0 ≤ left) (h1 : left ≤ 1048576) : C k 21 [.agg [.d (.list 1 a0), .d (.list 2 a1), .d (.int .i64 a2), .d (.int .i64 a3)], .d (.int .i64 left)] = some [(false, [.d (.int .i64 (szT left (szC [.list 1 a0, .list 2 a1, .int .i64 a2, .int .i64 a3])))])] := by
  obtain ⟨k, rfl⟩ : ∃ j, k = j + 1 := ⟨k - 1, by omega⟩
  have eT : szC [.list 1 a0, .list 2 a1, .int .i64 a2, .int .i64 a3] = (szC [.list 1 a0, .list 2 a1]) := by simp only [szC, szD] <;> omega
  rw [eT, F21.run]
  rw [c11 (k := k) (by omega)  ha0 ha1 (left := left) (by omega) (by omega)]
  simp only [List.getElem?_cons_zero, List.getElem?_cons_succ, Option.bind_some, asI_s, asB_s, asS_s, asL_s, bindI_s, bindB_s, bindS_s, bindL_s, bindR_s, resI_s, resB_s, resS_s, resO_s, bne_self_eq_false, beq_self_eq_true, Bool.not_true]
  rcases szT_cases (left) (szC [.list 1 a0, .list 2 a1]) with ⟨q0, e0⟩ | ⟨q0, e0⟩ <;> rw [e0]
  rotate_left
  · rw [ite'_t (by simp only [decide_eq_true_eq]; omega)] <;> first | rfl | rw [szT_neg (by omega)]
  rw [ite'_f (neg_f (by omega))] <;> first | rfl | (rw [szT_pos (by omega)] <;> (congr 6 <;> omega))
/-- laws.toInequalityQuery -/
theorem F23x0 {a0 : Ovi.Rows} {a1 : Ovi.Rows} {a2 : Int} {a3 : Int} : resO 3 1 1 true 4 [(true, [.row 3 1 a0, .row 95 2 a1, .d (.int .i64 a2), .d (.int .i64 a3)])] 0 0 = some a0 := rfl
theorem F23x1 {a0 : Ovi.Rows} {a1 : Ovi.Rows} {a2 : Int} {a3 : Int} : resO 95 2 1 true 4 [(true, [.row 3 1 a0, .row 95 2 a1, .d (.int .i64 a2), .d (.int .i64 a3)])] 0 1 = some a1 := rfl
theorem F23x2 {a0 : Ovi.Rows} {a1 : Ovi.Rows} {a2 : Int} {a3 : Int} : resI .i64 1 true 4 [(true, [.row 3 1 a0, .row 95 2 a1, .d (.int .i64 a2), .d (.int .i64 a3)])] 0 2 = some a2 := rfl
theorem F23x3 {a0 : Ovi.Rows} {a1 : Ovi.Rows} {a2 : Int} {a3 : Int} : resI .i64 1 true 4 [(true, [.row 3 1 a0, .row 95 2 a1, .d (.int .i64 a2), .d (.int .i64 a3)])] 0 3 = some a3 := rfl
theorem c23 {k : Nat} (hk : 2000005 ≤ k) {a0 : Ovi.Rows} (ha0 : Fit (.list [.int .i64]) (.list 1 a0)) {a1 : Ovi.Rows} (ha1 : Fit (.list [.int .i64, .list [.int .i64]]) (.list 2 a1)) {a2 : Int} {a3 : Int} (s0 : szD (.list 1 a0) ≤ 1048576) (s1 : szD (.list 2 a1) ≤ 1048576) : C k 23 [.agg [.d (.list 1 a0), .d (.list 2 a1), .d (.int .i64 a2), .d (.int .i64 a3)]] = some [(true, [.row 3 1 a0, .row 95 2 a1, .d (.int .i64 a2), .d (.int .i64 a3)])] := by
  obtain ⟨k, rfl⟩ : ∃ j, k = j + 1 := ⟨k - 1, by omega⟩
  rw [F23.run]
  rw [c13 (k := k) (by omega)  ha0 ha1 s0 s1]
  simp only [List.getElem?_cons_zero, List.getElem?_cons_succ, Option.bind_some, asI_s, asB_s, asS_s, asL_s, bindI_s, bindB_s, bindS_s, bindL_s, bindR_s, resI_s, resB_s, resS_s, resO_s, bne_self_eq_false, beq_self_eq_true, Bool.not_true]
  simp only [F13x0, F13x1]
  simp only [List.getElem?_cons_zero, List.getElem?_cons_succ, Option.bind_some, asI_s, asB_s, asS_s, asL_s, bindI_s, bindB_s, bindS_s, bindL_s, bindR_s, resI_s, resB_s, resS_s, resO_s, bne_self_eq_false, beq_self_eq_true, Bool.not_true]
/-- laws.eqInequalityQuery -/
theorem c25 {k : Nat} (hk : 2000005 ≤ k) {a0 : Ovi.Rows} (ha0 : Fit (.list [.int .i64]) (.list 1 a0)) {a1 : Ovi.Rows} (ha1 : Fit (.list [.int .i64, .list [.int .i64]]) (.list 2 a1)) {a2 : Int} {a3 : Int} (s0 : szD (.list 1 a0) ≤ 1048576) (s1 : szD (.list 2 a1) ≤ 1048576) : C k 25 [.agg [.d (.list 1 a0), .d (.list 2 a1), .d (.int .i64 a2), .d (.int .i64 a3)], .agg [.d (.list 1 a0), .d (.list 2 a1), .d (.int .i64 a2), .d (.int .i64 a3)]] = some [(false, [.d (.bool true)])] := by
  obtain ⟨k, rfl⟩ : ∃ j, k = j + 1 := ⟨k - 1, by omega⟩
  rw [F25.run]
  rw [c15 (k := k) (by omega)  ha0 ha1 s0 s1]
  simp only [List.getElem?_cons_zero, List.getElem?_cons_succ, Option.bind_some, asI_s, asB_s, asS_s, asL_s, bindI_s, bindB_s, bindS_s, bindL_s, bindR_s, resI_s, resB_s, resS_s, resO_s, bne_self_eq_false, beq_self_eq_true, Bool.not_true]
  rfl
end Go.Proofs.Ytekcjghbfbfmpaa.Q4

/-! H4 -/
namespace Go.Proofs.Ytekcjghbfbfmpaa.Q4
open Go Ovi

def bo (b : Bool) : Option Res := some [(false, [.d (.bool b)])]
theorem bo_eq {b c : Bool} (h : b = c) : bo b = bo c := by rw [h]
/-- spec.l1In -/
theorem c65 (k : Nat) (a l h : Int) : C (k + 1) 65 [.d (.int .i64 a), .d (.int .i64 l), .d (.int .i64 h)] = bo (decide (l ≤ a ∧ a ≤ h)) := by
  rw [F65.run]
  by_cases h1 : l ≤ a
  · rw [ite'_t (by simpa using h1)]; exact bo_eq (by simp [h1])
  · rw [ite'_f (by simpa using h1)]; exact bo_eq (by simp [h1])
/-- impl.within -/
theorem c113 (k : Nat) (a l h : Int) : C (k + 1) 113 [.d (.int .i64 a), .d (.int .i64 l), .d (.int .i64 h)] = bo (decide (l ≤ a ∧ a ≤ h)) := by
  rw [F113.run]
  by_cases h1 : l ≤ a
  · rw [ite'_t (by simpa using h1)]; exact bo_eq (by simp [h1])
  · rw [ite'_f (by simpa using h1)]; exact bo_eq (by simp [h1])
theorem bB (b : Bool) (k : Bool → Option Res) : (bindR (bo b) fun r => bindB (resB 1 false 1 r 0 0) k) = k b := rfl
theorem iB {x y : Option Res} (b : Bool) : ite' b x y = cond b x y := rfl
variable {k : Nat}
/-- spec.l4Has -/
theorem c64 (zs : List Int) (v : Int) (hk : zs.length < k) (hz : zs.length ≤ maxLen) : C (k + 1) 64 [.d (.list 1 (I1 zs)), .d (.int .i64 v)] = bo (decide (v ∈ zs)) := by
  rw [F64.run]
  have := loop_any (xs := zs) (L := fun n i => F64.L2 k (C k) n (I1 zs) v i) (stop := fun x => x == v) (hit := bo true) (fin := bo false)
    (fun n i x hx => by
      have hi := (List.getElem?_eq_some_iff.1 hx).1
      rw [F64.L2.succ, I1_len, ite'_t (lt_t hi), ite'_t (inR_t hi)]
      simp only [Int.toNat_natCast, cellI_at (I1_get' hx), List.getElem?_cons_zero, Option.bind_some, asI_s, bindI_s]
      rw [next_i hi hz]; rfl)
    (fun n => by rw [F64.L2.succ, I1_len, ite'_f (lt_f (by omega))]; rfl) k hk
  rw [show F64.L2 k (C k) k (I1 zs) v 0 = _ from this]
  by_cases h : v ∈ zs
  · rw [List.any_eq_true.2 ⟨v, h, by simp⟩]; exact bo_eq (by simp [h])
  · rw [show zs.any (fun x => x == v) = false by rw [List.any_eq_false]; intro x hx; simp; intro e; exact h (e ▸ hx)]; exact bo_eq (by simp [h])
/-- slices.Contains on integers -/
theorem c71 (zs : List Int) (v : Int) (hk : zs.length < k) (hz : zs.length ≤ maxLen) : C (k + 2) 71 [.d (.list 1 (I1 zs)), .d (.int .i64 v)] = bo (decide (v ∈ zs)) := by
  rw [F71.run, F118.run, I1_len]
  have := loop_find (xs := zs) (L := fun n i => F118.L2 k (C k) n (I1 zs) v (zs.length : Int) i) (stop := fun _ x => v == x) (hit := fun i => some [(false, [.d (.int .i64 (i : Int))])]) (fin := some [(false, [.d (.int .i64 (-1))])])
    (fun n i x hx => by
      have hi := (List.getElem?_eq_some_iff.1 hx).1
      rw [F118.L2.succ, I1_len, ite'_t (lt_t hi), ite'_t (inR_t hi)]
      simp only [Int.toNat_natCast, cellI_at (I1_get' hx), List.getElem?_cons_zero, Option.bind_some, asI_s, bindI_s]
      rw [next_i hi hz]; rfl)
    (fun n => by rw [F118.L2.succ, ite'_f (lt_f (by omega))]) k hk
  rcases this with ⟨i, x, hx, hst, e⟩ | ⟨hst, e⟩
  · rw [show F118.L2 k (C k) k (I1 zs) v (zs.length : Int) 0 = _ from e]
    simp only [bindR_s, resI_s, bindI_s]
    have : v = x := by simpa using hst
    subst this
    exact bo_eq (by rw [decide_eq_true (List.mem_of_getElem? hx)]; simp)
  · rw [show F118.L2 k (C k) k (I1 zs) v (zs.length : Int) 0 = _ from e]
    simp only [bindR_s, resI_s, bindI_s]
    refine bo_eq ?_
    rw [decide_eq_false (p := v ∈ zs) (fun h => ?_)]
    · rfl
    · obtain ⟨i, hi⟩ := List.mem_iff_getElem?.1 h
      have := hst i v hi
      simp at this
/-- slices.ContainsFunc on integers -/
theorem c69 (zs : List Int) (f : FuncId) (caps : Ovi.Rows) (p : Int → Bool) (hk : zs.length < k) (hz : zs.length ≤ maxLen) (hp : ∀ z ∈ zs, C k f (.d (.int .i64 z) :: caps.map fun c => .cap c 0) = bo (p z)) : C (k + 2) 69 [.d (.list 1 (I1 zs)), .d (.fn f caps)] = bo (zs.any p) := by
  rw [F69.run, F117.run, I1_len]
  have := loop_find (xs := zs) (L := fun n i => F117.L2 k (C k) n (I1 zs) f caps (zs.length : Int) i) (stop := fun _ x => p x) (hit := fun i => some [(false, [.d (.int .i64 (i : Int))])]) (fin := some [(false, [.d (.int .i64 (-1))])])
    (fun n i x hx => by
      have hi := (List.getElem?_eq_some_iff.1 hx).1
      rw [F117.L2.succ, I1_len, ite'_t (lt_t hi), ite'_t (inR_t hi)]
      simp only [Int.toNat_natCast, cellI_at (I1_get' hx), List.getElem?_cons_zero, Option.bind_some, asI_s, bindI_s]
      rw [next_i hi hz]
      have := hp x (List.mem_of_getElem? hx)
      simp only [List.append_eq, List.nil_append] at this ⊢
      rw [this, bB]; rfl)
    (fun n => by rw [F117.L2.succ, ite'_f (lt_f (by omega))]) k hk
  rcases this with ⟨i, x, hx, hst, e⟩ | ⟨hst, e⟩
  · rw [show F117.L2 k (C k) k (I1 zs) f caps (zs.length : Int) 0 = _ from e]
    simp only [bindR_s, resI_s, bindI_s]
    exact bo_eq (by rw [List.any_eq_true.2 ⟨x, List.mem_of_getElem? hx, hst⟩]; simp)
  · rw [show F117.L2 k (C k) k (I1 zs) f caps (zs.length : Int) 0 = _ from e]
    simp only [bindR_s, resI_s, bindI_s]
    refine bo_eq ?_
    rw [List.any_eq_false.2 (fun x hx => ?_)]
    · rfl
    · obtain ⟨i, hi⟩ := List.mem_iff_getElem?.1 hx
      simpa using hst i x hi
/-- slices.ContainsFunc on atoms -/
theorem c114 (xs : List Atom) (f : FuncId) (caps : Ovi.Rows) (p : Atom → Bool) (hk : xs.length < k) (hz : xs.length ≤ maxLen) (hp : ∀ x ∈ xs, C k f (.agg [.d (.int .i64 x.1), .d (.list 1 (I1 x.2))] :: caps.map fun c => .cap c 0) = bo (p x)) : C (k + 2) 114 [.d (.list 2 (A1 xs)), .d (.fn f caps)] = bo (xs.any p) := by
  rw [F114.run, F158.run, A1_len]
  have := loop_find (xs := xs) (L := fun n i => F158.L2 k (C k) n (A1 xs) f caps (xs.length : Int) i) (stop := fun _ x => p x) (hit := fun i => some [(false, [.d (.int .i64 (i : Int))])]) (fin := some [(false, [.d (.int .i64 (-1))])])
    (fun n i x hx => by
      have hi := (List.getElem?_eq_some_iff.1 hx).1
      rw [F158.L2.succ, A1_len, ite'_t (lt_t hi), ite'_t (inR_t hi)]
      simp only [Int.toNat_natCast, cellI_at (A1_get hx), cellL_at (A1_get hx), List.getElem?_cons_zero, List.getElem?_cons_succ, Option.bind_some, asI_s, asL_s, bindI_s, bindL_s]
      rw [next_i hi hz]
      have := hp x (List.mem_of_getElem? hx)
      simp only [List.append_eq, List.nil_append] at this ⊢
      rw [this, bB]; rfl)
    (fun n => by rw [F158.L2.succ, ite'_f (lt_f (by omega))]) k hk
  rcases this with ⟨i, x, hx, hst, e⟩ | ⟨hst, e⟩
  · rw [show F158.L2 k (C k) k (A1 xs) f caps (xs.length : Int) 0 = _ from e]
    simp only [bindR_s, resI_s, bindI_s]
    exact bo_eq (by rw [List.any_eq_true.2 ⟨x, List.mem_of_getElem? hx, hst⟩]; simp)
  · rw [show F158.L2 k (C k) k (A1 xs) f caps (xs.length : Int) 0 = _ from e]
    simp only [bindR_s, resI_s, bindI_s]
    refine bo_eq ?_
    rw [List.any_eq_false.2 (fun x hx => ?_)]
    · rfl
    · obtain ⟨i, hi⟩ := List.mem_iff_getElem?.1 hx
      simpa using hst i x hi

/-! ### relations -/
def Rl : Ty := .list [.str, .int .i64, .bool]
/-- both IsValidRelation -/
def relOk (s : List UInt8) (n : Int) : Bool := decide (s.length = 1) && (decide (byteAt s 0 ≥ 97) && (decide (byteAt s 0 ≤ 122) && decide (1 ≤ n ∧ n ≤ 3)))
theorem c160 (s : List UInt8) (n : Int) (b : Bool) : C (k + 2) 160 [.agg [.d (.str s), .d (.int .i64 n), .d (.bool b)]] = bo (relOk s n) := by
  rw [F160.run]
  by_cases h : s.length = 1
  · obtain ⟨h1, h2⟩ := letter s h
    rw [ite'_t (by simp; omega), h1, h2, c113, bB]
    unfold relOk
    rw [decide_eq_true h]
    cases decide (byteAt s 0 ≥ 97) <;> cases decide (byteAt s 0 ≤ 122) <;> rfl
  · rw [ite'_f (by simp; omega)]
    unfold relOk
    rw [decide_eq_false h]
    rfl
theorem c155 (s : List UInt8) (n : Int) (b : Bool) : C (k + 2) 155 [.agg [.d (.str s), .d (.int .i64 n), .d (.bool b)]] = bo (relOk s n) := by
  rw [F155.run]
  by_cases h : s.length = 1
  · rw [ite'_t (by simp; omega), ite'_t (by simp [inR]; omega), ite'_t (b := inR 0 s.length) (by simp [inR]; omega), c65, bB]
    unfold relOk
    rw [decide_eq_true h]
    cases decide (byteAt s 0 ≥ 97) <;> cases decide (byteAt s 0 ≤ 122) <;> rfl
  · rw [ite'_f (by simp; omega)]
    unfold relOk
    rw [decide_eq_false h]
    rfl
/-- both AreValidRelations answer alike -/
theorem rels {a : Ovi.Rows} (ha : Fit Rl (.list 3 a)) : ∃ b, ∀ k, a.length < k → C (k + 3) 123 [.d (.list 3 a)] = bo b ∧ C (k + 3) 110 [.d (.list 3 a)] = bo b := by
  have hlen := ha.len
  have key : ∀ (m i : Nat), i + m = a.length → ∃ b, ∀ k n, m < n → F123.L2 (k + 2) (C (k + 2)) n a a (a.length : Int) (i : Int) = bo b ∧ F110.L2 (k + 2) (C (k + 2)) n a (i : Int) = bo b := by
    intro m
    induction m with
    | zero =>
      intro i hm
      refine ⟨decide ((a.length : Int) ≤ 6), fun k n hn => ?_⟩
      obtain ⟨n, rfl⟩ : ∃ j, n = j + 1 := ⟨n - 1, by omega⟩
      constructor
      · rw [F123.L2.succ, ite'_f (lt_f (by omega))]; rfl
      · rw [F110.L2.succ, ite'_f (lt_f (by omega))]; rfl
    | succ m ih =>
      intro i hm
      have hi : i < a.length := by omega
      obtain ⟨row, hr, hfr, _⟩ := ha.row hi
      obtain ⟨d0, r0, rfl, f0, h1⟩ := Fits.cons hfr
      obtain ⟨d1, r1, rfl, f1, h1⟩ := Fits.cons h1
      obtain ⟨d2, r2, rfl, f2, h1⟩ := Fits.cons h1
      obtain rfl := Fits.nil h1
      obtain ⟨s, rfl, hs⟩ := f0.str
      obtain ⟨x, rfl, _⟩ := f1.int
      obtain ⟨b, rfl⟩ := f2.bool
      obtain ⟨bb, ih⟩ := ih (i + 1) (by omega)
      have step : ∀ k n, F123.L2 (k + 2) (C (k + 2)) (n + 1) a a (a.length : Int) (i : Int) = ite' (!relOk s x) (bo false) (ite' (decide ((i : Int) > 0)) (ite' (inR (IntKind.i64.wrap ((i : Int) - 1)) a.length) (bindS (cellS a (IntKind.i64.wrap ((i : Int) - 1)).toNat 0) fun s13 => ite' (sLess s s13 || s == s13) (bo false) (F123.L2 (k + 2) (C (k + 2)) n a a (a.length : Int) ((i + 1 : Nat) : Int))) none) (F123.L2 (k + 2) (C (k + 2)) n a a (a.length : Int) ((i + 1 : Nat) : Int))) ∧
          F110.L2 (k + 2) (C (k + 2)) (n + 1) a (i : Int) = ite' (!relOk s x) (bo false) (ite' (decide ((i : Int) > 0)) (ite' (inR (IntKind.i64.wrap ((i : Int) - 1)) a.length) (bindS (cellS a (IntKind.i64.wrap ((i : Int) - 1)).toNat 0) fun s11 => ite' (!sLess s11 s) (bo false) (F110.L2 (k + 2) (C (k + 2)) n a ((i + 1 : Nat) : Int))) none) (F110.L2 (k + 2) (C (k + 2)) n a ((i + 1 : Nat) : Int))) := by
        intro k n
        rw [F123.L2.succ, F110.L2.succ, ite'_t (lt_t hi), ite'_t (inR_t hi), ite'_t (lt_t hi), ite'_t (inR_t hi)]
        simp only [Int.toNat_natCast, cellI_at hr, cellS_at hr, cellB_at hr, List.getElem?_cons_zero, List.getElem?_cons_succ, Option.bind_some, asI_s, asS_s, asB_s, bindI_s, bindS_s, bindB_s]
        rw [c160, c155, next_i hi hlen, bB, bB]
        refine ⟨rfl, ?_⟩
        simp only [show ∀ x y : Option Res, ite' (inR (i : Int) a.length) x y = x from fun x y => ite'_t (inR_t hi)]
        rfl
      cases hv : relOk s x with
      | false =>
        refine ⟨false, fun k n hn => ?_⟩
        obtain ⟨n, rfl⟩ : ∃ j, n = j + 1 := ⟨n - 1, by omega⟩
        obtain ⟨e1, e2⟩ := step k n
        rw [e1, e2, hv]
        exact ⟨rfl, rfl⟩
      | true =>
        by_cases h0 : i = 0
        · subst h0
          refine ⟨bb, fun k n hn => ?_⟩
          obtain ⟨n, rfl⟩ : ∃ j, n = j + 1 := ⟨n - 1, by omega⟩
          obtain ⟨e1, e2⟩ := step k n
          rw [e1, e2, hv]
          exact ih k n (by omega)
        · have hw : IntKind.i64.wrap ((i : Int) - 1) = ((i - 1 : Nat) : Int) := by
            unfold maxLen at hlen
            rw [wrap_id (by omega) (by omega)]; omega
          obtain ⟨row', hr', hfr', _⟩ := ha.row (i := i - 1) (by omega)
          obtain ⟨d0', r0', rfl, f0', h1'⟩ := Fits.cons hfr'
          obtain ⟨s', rfl, hs'⟩ := f0'.str
          have hcs : cellS a ((i - 1 : Nat) : Int).toNat 0 = some s' := by rw [Int.toNat_natCast, cellS_at hr']; rfl
          have hgt : decide ((i : Int) > 0) = true := by simp; omega
          have hin : inR ((i - 1 : Nat) : Int) a.length = true := inR_t (by omega)
          cases hl : sLess s' s with
          | true =>
            refine ⟨bb, fun k n hn => ?_⟩
            obtain ⟨n, rfl⟩ : ∃ j, n = j + 1 := ⟨n - 1, by omega⟩
            obtain ⟨e1, e2⟩ := step k n
            rw [e1, e2, hv, hw, hgt, hin, hcs]
            simp only [bindS_s]
            rw [sLess_total, hl]
            exact ih k n (by omega)
          | false =>
            refine ⟨false, fun k n hn => ?_⟩
            obtain ⟨n, rfl⟩ : ∃ j, n = j + 1 := ⟨n - 1, by omega⟩
            obtain ⟨e1, e2⟩ := step k n
            rw [e1, e2, hv, hw, hgt, hin, hcs]
            simp only [bindS_s]
            rw [sLess_total, hl]
            exact ⟨rfl, rfl⟩
  obtain ⟨b, hb⟩ := key a.length 0 (by omega)
  refine ⟨b, fun k hk => ?_⟩
  rw [F123.run, F110.run]
  exact hb k (k + 2) (by omega)
/-- both IsValidAtom answer alike -/
theorem atoms {a : Ovi.Rows} (ha : Fit Rl (.list 3 a)) (x : Atom) (hx2 : x.2.length ≤ maxLen) : ∃ b, ∀ k, a.length < k → x.2.length < k → C (k + 5) 116 [.d (.list 3 a), .agg [.d (.int .i64 x.1), .d (.list 1 (I1 x.2))]] = bo b ∧ C (k + 5) 63 [.d (.list 3 a), .agg [.d (.int .i64 x.1), .d (.list 1 (I1 x.2))]] = bo b := by
  have hlen := ha.len
  unfold maxLen at hlen
  obtain ⟨b, hb⟩ := rels ha
  have e : ∀ k, a.length < k → C (k + 4) 123 [.d (.list 3 a)] = bo b ∧ C (k + 4) 110 [.d (.list 3 a)] = bo b := fun k hk => hb (k + 1) (by omega)
  cases b with
  | false =>
    refine ⟨false, fun k hk hx => ?_⟩
    rw [F116.run, F63.run, (e k hk).1, (e k hk).2, bB, bB]
    exact ⟨rfl, rfl⟩
  | true =>
    by_cases hr : 0 ≤ x.1 ∧ x.1 ≤ (a.length : Int) - 1
    · obtain ⟨i, hi⟩ : ∃ i : Nat, x.1 = i := ⟨x.1.toNat, by omega⟩
      have hia : i < a.length := by omega
      obtain ⟨row, hrow, hfr, _⟩ := ha.row hia
      obtain ⟨d0, r0, rfl, f0, h1⟩ := Fits.cons hfr
      obtain ⟨d1, r1, rfl, f1, h1⟩ := Fits.cons h1
      obtain ⟨n, rfl, _⟩ := f1.int
      have hcn : cellI .i64 a ((i : Int)).toNat 1 = some n := by rw [Int.toNat_natCast, cellI_at hrow]; simp [asI_s]
      by_cases hn : ((I1 x.2).length : Int) = n
      · refine ⟨!(x.2.any fun t => !decide (-10 ≤ t ∧ t ≤ 4)), fun k hk hx => ?_⟩
        rw [F116.run, F63.run, (e k hk).1, (e k hk).2, bB, bB, ite'_nt, ite'_nt, c113, c65, bB, bB, wrap_id (by omega) (by omega), decide_eq_true hr, ite'_nt, ite'_nt, hi, ite'_t (inR_t hia), ite'_t (inR_t hia), hcn]
        simp only [bindI_s]
        rw [ite'_f (by simpa using hn), ite'_f (b := ((I1 x.2).length : Int) != n) (by simpa using hn)]
        have e69 := c69 (k := k + 2) x.2 159 [] (fun t => !decide (-10 ≤ t ∧ t ≤ 4)) (by omega) hx2 (fun z _ => by
          rw [List.map_nil, F159.run, c113 k, bB]; rfl)
        rw [e69, bB]
        refine ⟨rfl, ?_⟩
        have := loop_any (xs := x.2) (L := fun m j => F63.L4 (k + 4) (C (k + 4)) m j (i : Int) (I1 x.2)) (stop := fun t => !decide (-10 ≤ t ∧ t ≤ 4)) (hit := bo false) (fin := bo true)
          (fun m j t ht => by
            have hj := (List.getElem?_eq_some_iff.1 ht).1
            rw [F63.L4.succ, I1_len, ite'_t (lt_t hj), ite'_t (inR_t hj)]
            simp only [Int.toNat_natCast, cellI_at (I1_get' ht), List.getElem?_cons_zero, Option.bind_some, asI_s, bindI_s]
            rw [c65, bB, next_i hj hx2]; rfl)
          (fun m => by rw [F63.L4.succ, I1_len, ite'_f (lt_f (by omega))]; rfl) (k + 4) (by omega)
        rw [show F63.L4 (k + 4) (C (k + 4)) (k + 4) 0 (i : Int) (I1 x.2) = _ from this]
        cases x.2.any (fun t => !decide (-10 ≤ t ∧ t ≤ 4)) <;> rfl
      · refine ⟨false, fun k hk hx => ?_⟩
        rw [F116.run, F63.run, (e k hk).1, (e k hk).2, bB, bB, ite'_nt, ite'_nt, c113, c65, bB, bB, wrap_id (by omega) (by omega), decide_eq_true hr, ite'_nt, ite'_nt, hi, ite'_t (inR_t hia), ite'_t (inR_t hia), hcn]
        simp only [bindI_s]
        rw [ite'_t (by simpa using hn), ite'_t (b := ((I1 x.2).length : Int) != n) (by simpa using hn)]
        exact ⟨rfl, rfl⟩
    · refine ⟨false, fun k hk hx => ?_⟩
      rw [F116.run, F63.run, (e k hk).1, (e k hk).2, bB, bB, ite'_nt, ite'_nt, c113, c65, bB, bB, wrap_id (by omega) (by omega), decide_eq_false hr]
      exact ⟨rfl, rfl⟩
end Go.Proofs.Ytekcjghbfbfmpaa.Q4

/-! I4 -/
namespace Go.Proofs.Ytekcjghbfbfmpaa.Q4
open Go Ovi
variable {k : Nat}
/-- what the atoms hold: z is a variable of theirs -/
def isVar (xs : List Atom) (z : Int) : Prop := 0 ≤ z ∧ ∃ x ∈ xs, z ∈ x.2
def terms (xs : List Atom) : Nat := (xs.map fun x => x.2.length).sum
theorem terms_at {xs : List Atom} {i : Nat} {x : Atom} (h : xs[i]? = some x) : terms (xs.take i) + x.2.length = terms (xs.take (i + 1)) := by
  obtain ⟨hi, e⟩ := List.getElem?_eq_some_iff.1 h
  unfold terms
  rw [List.take_succ_eq_append_getElem hi, e]
  simp
theorem terms_le (xs : List Atom) (i : Nat) : terms (xs.take i) ≤ terms xs := by
  have : terms xs = terms (xs.take i) + terms (xs.drop i) := by
    unfold terms
    rw [← List.sum_append, ← List.map_append, List.take_append_drop]
  omega
theorem isVar_take {xs : List Atom} {i : Nat} {x : Atom} (h : xs[i]? = some x) (z : Int) : isVar (xs.take (i + 1)) z ↔ isVar (xs.take i) z ∨ (0 ≤ z ∧ z ∈ x.2) := by
  obtain ⟨hi, e⟩ := List.getElem?_eq_some_iff.1 h
  unfold isVar
  rw [List.take_succ_eq_append_getElem hi, e]
  simp only [List.mem_append, List.mem_singleton]
  constructor
  · rintro ⟨h0, y, hy | rfl, hz⟩
    · exact .inl ⟨h0, y, hy, hz⟩
    · exact .inr ⟨h0, hz⟩
  · rintro (⟨h0, y, hy, hz⟩ | ⟨h0, hz⟩)
    · exact ⟨h0, y, .inl hy, hz⟩
    · exact ⟨h0, x, .inr rfl, hz⟩
/-- impl.Variables -/
theorem c67 (xs : List Atom) (hk : terms xs + xs.length < k) (hs : terms xs + xs.length ≤ 1048576) : ∃ vs, C (k + 1) 67 [.d (.list 2 (A1 xs))] = some [(false, [.row 3 1 (I1 vs)])] ∧ (∀ z, z ∈ vs ↔ isVar xs z) ∧ vs.length ≤ terms xs := by
  rw [F67.run, A1_len]
  have hmax : (1048576 : Nat) ≤ maxLen := by decide
  -- the inner loop
  have inner : ∀ (i : Nat) (x : Atom), xs[i]? = some x → ∀ (m j n k3 : Nat) (acc : List Int), j + m = x.2.length → m < n → acc.length ≤ terms (xs.take i) + j → (∀ z, z ∈ acc ↔ isVar (xs.take i) z ∨ (0 ≤ z ∧ z ∈ x.2.take j)) →
      ∃ acc', F67.L6 k (C k) k3 n (A1 xs) (xs.length : Int) (i : Int) (I1 x.2) (x.2.length : Int) (j : Int) (I1 acc) = F67.L3 k (C k) k3 (A1 xs) (xs.length : Int) ((i + 1 : Nat) : Int) (I1 acc') ∧ acc'.length ≤ terms (xs.take (i + 1)) ∧ ∀ z, z ∈ acc' ↔ isVar (xs.take (i + 1)) z := by
    intro i x hx m
    have hi := (List.getElem?_eq_some_iff.1 hx).1
    have hta := terms_at hx
    have htl := terms_le xs (i + 1)
    induction m with
    | zero =>
      intro j n k3 acc hm hn ha hmem
      obtain ⟨n, rfl⟩ : ∃ j, n = j + 1 := ⟨n - 1, by omega⟩
      obtain rfl : j = x.2.length := by omega
      refine ⟨acc, ?_, by omega, fun z => ?_⟩
      · rw [F67.L6.succ, ite'_f (lt_f (by omega)), next_i hi (m := xs.length) (by omega)]
      · rw [hmem z, isVar_take hx, List.take_length]
    | succ m ih =>
      intro j n k3 acc hm hn ha hmem
      obtain ⟨n, rfl⟩ : ∃ j, n = j + 1 := ⟨n - 1, by omega⟩
      have hj : j < x.2.length := by omega
      have hz := List.getElem?_eq_getElem hj
      rw [F67.L6.succ, ite'_t (lt_t hj), I1_len, ite'_t (inR_t hj)]
      simp only [Int.toNat_natCast, cellI_at (I1_get' hz), List.getElem?_cons_zero, Option.bind_some, asI_s, bindI_s]
      rw [next_i hj (m := x.2.length) (by omega)]
      have htk : ∀ z, z ∈ x.2.take (j + 1) ↔ z ∈ x.2.take j ∨ z = x.2[j] := by
        intro z
        rw [List.take_succ_eq_append_getElem hj]
        simp only [List.mem_append, List.mem_singleton]
      by_cases h0 : 0 ≤ x.2[j]
      · rw [ite'_t (by simpa using h0), ite'_t (fits_t (by simp [I1_len]; omega))]
        have e : I1 acc ++ [[.int .i64 x.2[j]]] = I1 (acc ++ [x.2[j]]) := by simp [I1]
        rw [e]
        refine ih (j + 1) n k3 _ (by omega) (by omega) (by simp; omega) (fun z => ?_)
        rw [List.mem_append, List.mem_singleton, hmem z, htk z]
        constructor
        · rintro ((h | h) | h)
          · exact .inl h
          · exact .inr ⟨h.1, .inl h.2⟩
          · exact .inr ⟨h ▸ h0, .inr h⟩
        · rintro (h | ⟨h1, h | h⟩)
          · exact .inl (.inl h)
          · exact .inl (.inr ⟨h1, h⟩)
          · exact .inr h
      · rw [ite'_f (by simpa using h0)]
        refine ih (j + 1) n k3 _ (by omega) (by omega) (by omega) (fun z => ?_)
        rw [hmem z, htk z]
        constructor
        · rintro (h | h)
          · exact .inl h
          · exact .inr ⟨h.1, .inl h.2⟩
        · rintro (h | ⟨h1, h | h⟩)
          · exact .inl h
          · exact .inr ⟨h1, h⟩
          · exact absurd (h ▸ h1) h0
  have outer : ∀ (m i n : Nat) (acc : List Int), i + m = xs.length → m < n → acc.length ≤ terms (xs.take i) → (∀ z, z ∈ acc ↔ isVar (xs.take i) z) →
      ∃ vs, F67.L3 k (C k) n (A1 xs) (xs.length : Int) (i : Int) (I1 acc) = some [(false, [.row 3 1 (I1 vs)])] ∧ (∀ z, z ∈ vs ↔ isVar xs z) ∧ vs.length ≤ terms xs := by
    intro m
    induction m with
    | zero =>
      intro i n acc hm hn ha hmem
      obtain ⟨n, rfl⟩ : ∃ j, n = j + 1 := ⟨n - 1, by omega⟩
      obtain rfl : i = xs.length := by omega
      rw [List.take_length] at ha hmem
      obtain ⟨k, rfl⟩ : ∃ j, k = j + 1 := ⟨k - 1, by omega⟩
      have e1 : C (k + 1) 111 [.var 0 0, .d (.int .i64 3), .d (.list 1 (I1 acc))] = some [(false, [.row 3 1 (I1 (sortInts acc))])] := by
        show sortP _ = _
        unfold sortP rawArg
        simp only [ints_I1]
        rw [show Nat.ble acc.length 1099511627776 = true from Nat.ble_eq_true_of_le (by omega)]
        rfl
      have hsl : (sortInts acc).length = acc.length := by simp [sortInts]
      have e2 : C (k + 1) 112 [.var 0 0, .d (.int .i64 3), .d (.list 1 (I1 (sortInts acc)))] = some [(false, [.row 3 1 (I1 (Lib.compact (sortInts acc)))]), (true, [])] := by
        show compactP _ = _
        unfold compactP rawArg
        simp only [ints_I1]
        rw [show Nat.ble (sortInts acc).length 1099511627776 = true from Nat.ble_eq_true_of_le (by omega)]
        rfl
      refine ⟨Lib.compact (sortInts acc), ?_, fun z => ?_, ?_⟩
      · rw [F67.L3.succ, ite'_f (lt_f (by omega)), e1]
        simp only [bindR_s, resO_s, bindL_s]
        rw [e2]
        rfl
      · rw [mem_compact, mem_sortInts, hmem z]
      · have := compact_len (sortInts acc)
        omega
    | succ m ih =>
      intro i n acc hm hn ha hmem
      obtain ⟨n, rfl⟩ : ∃ j, n = j + 1 := ⟨n - 1, by omega⟩
      have hi : i < xs.length := by omega
      have hx := List.getElem?_eq_getElem hi
      rw [F67.L3.succ, A1_len, ite'_t (lt_t hi), ite'_t (inR_t hi)]
      simp only [Int.toNat_natCast, cellI_at (A1_get hx), cellL_at (A1_get hx), List.getElem?_cons_zero, List.getElem?_cons_succ, Option.bind_some, asI_s, asL_s, bindI_s, bindL_s]
      have hta := terms_at hx
      have htl := terms_le xs (i + 1)
      rw [I1_len]
      obtain ⟨acc', e, h1, h2⟩ := inner i _ hx (xs[i]).2.length 0 k n acc (by omega) (by omega) (by omega) (fun z => by simp [hmem z])
      rw [show ((0 : Nat) : Int) = 0 from rfl] at e
      rw [e]
      exact ih (i + 1) n acc' (by omega) (by omega) h1 h2
  have := outer xs.length 0 k [] (by omega) (by omega) (by simp) (fun z => by simp [isVar])
  exact this
theorem sortP_show : True := trivial
/-- spec.l4Put -/
theorem c109 (zs : List Int) (v : Int) (hk : zs.length < k) (hz : zs.length ≤ 1048576) : ∃ r ws, C (k + 1) 109 [.d (.list 1 (I1 zs)), .d (.int .i64 v)] = some r ∧ resL 1 1 false 1 r 0 0 = some (I1 ws) ∧ (∀ z, z ∈ ws ↔ z ∈ zs ∨ z = v) ∧ ws.length ≤ zs.length + 1 := by
  rw [F109.run]
  have hmax : (1048576 : Nat) ≤ maxLen := by decide
  have ins : ∀ i : Nat, i ≤ zs.length → ∃ r ws, (ite' (inS (i : Int) ((I1 zs).length : Int) (I1 zs).length) (ite' (fits (([[D.int .i64 v]] : Ovi.Rows).length + ((I1 zs).drop (i : Int).toNat).length)) (ite' (inS (0 : Int) (i : Int) (I1 zs).length) (ite' (fits ((I1 zs).take (i : Int).toNat).length) (ite' (fits (((I1 zs).take (i : Int).toNat).length + List.length ([[D.int .i64 v]] ++ (I1 zs).drop (i : Int).toNat))) (some ([(false, [RL.row 3 1 ((I1 zs).take (i : Int).toNat ++ ([[D.int .i64 v]] ++ (I1 zs).drop (i : Int).toNat))])] : Res)) none) none) none) none) none) = some r ∧ resL 1 1 false 1 r 0 0 = some (I1 ws) ∧ (∀ z, z ∈ ws ↔ z ∈ zs ∨ z = v) ∧ ws.length ≤ zs.length + 1 := by
    intro i hi
    rw [I1_len, ite'_t (by simp [inS]; omega), ite'_t (fits_t (by simp [I1_len]; omega)), ite'_t (by simp [inS]; omega), ite'_t (fits_t (by simp [I1_len]; omega)), ite'_t (fits_t (by simp [I1_len]; omega))]
    refine ⟨_, zs.take i ++ v :: zs.drop i, rfl, ?_, fun z => ?_, by simp; omega⟩
    · rw [resL_s]
      simp [I1]
    · have : z ∈ zs ↔ z ∈ zs.take i ∨ z ∈ zs.drop i := by rw [← List.mem_append, List.take_append_drop]
      rw [this, List.mem_append, List.mem_cons]
      constructor
      · rintro (h | h | h)
        · exact .inl (.inl h)
        · exact .inr h
        · exact .inl (.inr h)
      · rintro ((h | h) | h)
        · exact .inl h
        · exact .inr (.inr h)
        · exact .inr (.inl h)
  have main : ∀ (m i n : Nat), i + m = zs.length → m < n → ∃ r ws, F109.L2 k (C k) n (I1 zs) v (i : Int) = some r ∧ resL 1 1 false 1 r 0 0 = some (I1 ws) ∧ (∀ z, z ∈ ws ↔ z ∈ zs ∨ z = v) ∧ ws.length ≤ zs.length + 1 := by
    intro m
    induction m with
    | zero =>
      intro i n hm hn
      obtain ⟨n, rfl⟩ : ∃ j, n = j + 1 := ⟨n - 1, by omega⟩
      obtain ⟨r, ws, h1, h2⟩ := ins i (by omega)
      refine ⟨r, ws, ?_, h2⟩
      rw [F109.L2.succ]
      rw [ite'_f (b := decide ((i : Int) < ((I1 zs).length : Int))) (by rw [I1_len]; exact lt_f (by omega))]
      rw [ite'_f (b := decide ((i : Int) < ((I1 zs).length : Int))) (by rw [I1_len]; exact lt_f (by omega))]
      exact h1
    | succ m ih =>
      intro i n hm hn
      obtain ⟨n, rfl⟩ : ∃ j, n = j + 1 := ⟨n - 1, by omega⟩
      have hi : i < zs.length := by omega
      have hx := List.getElem?_eq_getElem hi
      obtain ⟨r, ws, h1, h2⟩ := ins i (by omega)
      rw [F109.L2.succ]
      rw [ite'_t (b := decide ((i : Int) < ((I1 zs).length : Int))) (by rw [I1_len]; exact lt_t hi)]
      rw [ite'_t (b := inR (i : Int) (I1 zs).length) (by rw [I1_len]; exact inR_t hi)]
      rw [show cellI .i64 (I1 zs) (i : Int).toNat 0 = some zs[i] by rw [Int.toNat_natCast, cellI_at (I1_get' hx)]; rfl]
      simp only [bindI_s]
      by_cases hlt : zs[i] < v
      · rw [ite'_t (by simpa using hlt), next_i hi (m := zs.length) (by omega)]
        exact ih (i + 1) n (by omega) (by omega)
      · rw [ite'_f (b := decide (zs[i] < v)) (by simpa using hlt)]
        rw [ite'_t (b := decide ((i : Int) < ((I1 zs).length : Int))) (by rw [I1_len]; exact lt_t hi)]
        rw [ite'_t (b := inR (i : Int) (I1 zs).length) (by rw [I1_len]; exact inR_t hi)]
        by_cases heq : zs[i] = v
        · rw [ite'_t (b := zs[i] == v) (by simpa using heq)]
          refine ⟨_, zs, rfl, resL_d _ _, fun z => ⟨.inl, ?_⟩, by omega⟩
          rintro (h | h)
          · exact h
          · rw [h, ← heq]; exact List.getElem_mem hi
        · rw [ite'_f (b := zs[i] == v) (by simpa using heq)]
          exact ⟨r, ws, h1, h2⟩
  have := main zs.length 0 k (by omega) (by omega)
  exact this
/-- spec.Variables -/
theorem c62 (xs : List Atom) (hk : terms xs + xs.length < k) (hs : terms xs + xs.length ≤ 1048576) : ∃ vs, C (k + 2) 62 [.d (.list 2 (A1 xs))] = some [(false, [.d (.list 1 (I1 vs))])] ∧ (∀ z, z ∈ vs ↔ isVar xs z) ∧ vs.length ≤ terms xs := by
  rw [F62.run]
  have hmax : (1048576 : Nat) ≤ maxLen := by decide
  have inner : ∀ (i : Nat) (x : Atom), xs[i]? = some x → ∀ (m j n k3 : Nat) (acc : List Int), j + m = x.2.length → m < n → acc.length ≤ terms (xs.take i) + j → (∀ z, z ∈ acc ↔ isVar (xs.take i) z ∨ (0 ≤ z ∧ z ∈ x.2.take j)) →
      ∃ acc', F62.L6 (k + 1) (C (k + 1)) k3 n (A1 xs) (I1 acc) (i : Int) (j : Int) = F62.L3 (k + 1) (C (k + 1)) k3 (A1 xs) (I1 acc') ((i + 1 : Nat) : Int) ∧ acc'.length ≤ terms (xs.take (i + 1)) ∧ ∀ z, z ∈ acc' ↔ isVar (xs.take (i + 1)) z := by
    intro i x hx m
    have hi := (List.getElem?_eq_some_iff.1 hx).1
    have hta := terms_at hx
    have htl := terms_le xs (i + 1)
    have hcell : cellL 1 (A1 xs) ((i : Int)).toNat 1 = some (I1 x.2) := by rw [Int.toNat_natCast, cellL_at (A1_get hx)]; rfl
    have hin : inR (i : Int) (A1 xs).length = true := by rw [A1_len]; exact inR_t hi
    induction m with
    | zero =>
      intro j n k3 acc hm hn ha hmem
      obtain ⟨n, rfl⟩ : ∃ j, n = j + 1 := ⟨n - 1, by omega⟩
      obtain rfl : j = x.2.length := by omega
      refine ⟨acc, ?_, by omega, fun z => ?_⟩
      · rw [F62.L6.succ, ite'_t hin, hcell, bindL_s, I1_len, ite'_f (lt_f (by omega)), next_i hi (m := xs.length) (by omega)]
      · rw [hmem z, isVar_take hx, List.take_length]
    | succ m ih =>
      intro j n k3 acc hm hn ha hmem
      obtain ⟨n, rfl⟩ : ∃ j, n = j + 1 := ⟨n - 1, by omega⟩
      have hj : j < x.2.length := by omega
      have hz := List.getElem?_eq_getElem hj
      have hcz : cellI .i64 (I1 x.2) ((j : Int)).toNat 0 = some x.2[j] := by rw [Int.toNat_natCast, cellI_at (I1_get' hz)]; rfl
      have hinj : inR (j : Int) (I1 x.2).length = true := by rw [I1_len]; exact inR_t hj
      rw [F62.L6.succ, ite'_t hin, hcell, bindL_s, ite'_t (b := decide ((j : Int) < ((I1 x.2).length : Int))) (by rw [I1_len]; exact lt_t hj), ite'_t hin]
      simp only [bindL_s]
      rw [ite'_t hinj, hcz]
      simp only [bindI_s]
      rw [next_i hj (m := x.2.length) (by omega)]
      have htk : ∀ z, z ∈ x.2.take (j + 1) ↔ z ∈ x.2.take j ∨ z = x.2[j] := by
        intro z
        rw [List.take_succ_eq_append_getElem hj]
        simp only [List.mem_append, List.mem_singleton]
      by_cases h0 : 0 ≤ x.2[j]
      · obtain ⟨r, ws, e1, e2, e3, e4⟩ := c109 (k := k) acc x.2[j] (by omega) (by omega)
        rw [ite'_t (by simpa using h0), ite'_t hin, ite'_t hinj, e1]
        simp only [bindR_s]
        rw [e2, bindL_s]
        refine ih (j + 1) n k3 _ (by omega) (by omega) (by omega) (fun z => ?_)
        rw [e3 z, hmem z, htk z]
        constructor
        · rintro ((h | h) | h)
          · exact .inl h
          · exact .inr ⟨h.1, .inl h.2⟩
          · exact .inr ⟨h ▸ h0, .inr h⟩
        · rintro (h | ⟨h1, h | h⟩)
          · exact .inl (.inl h)
          · exact .inl (.inr ⟨h1, h⟩)
          · exact .inr h
      · rw [ite'_f (by simpa using h0)]
        refine ih (j + 1) n k3 _ (by omega) (by omega) (by omega) (fun z => ?_)
        rw [hmem z, htk z]
        constructor
        · rintro (h | h)
          · exact .inl h
          · exact .inr ⟨h.1, .inl h.2⟩
        · rintro (h | ⟨h1, h | h⟩)
          · exact .inl h
          · exact .inr ⟨h1, h⟩
          · exact absurd (h ▸ h1) h0
  have outer : ∀ (m i n : Nat) (acc : List Int), i + m = xs.length → m < n → acc.length ≤ terms (xs.take i) → (∀ z, z ∈ acc ↔ isVar (xs.take i) z) →
      ∃ vs, F62.L3 (k + 1) (C (k + 1)) n (A1 xs) (I1 acc) (i : Int) = some [(false, [.d (.list 1 (I1 vs))])] ∧ (∀ z, z ∈ vs ↔ isVar xs z) ∧ vs.length ≤ terms xs := by
    intro m
    induction m with
    | zero =>
      intro i n acc hm hn ha hmem
      obtain ⟨n, rfl⟩ : ∃ j, n = j + 1 := ⟨n - 1, by omega⟩
      obtain rfl : i = xs.length := by omega
      rw [List.take_length] at ha hmem
      exact ⟨acc, by rw [F62.L3.succ, A1_len, ite'_f (lt_f (by omega))], hmem, ha⟩
    | succ m ih =>
      intro i n acc hm hn ha hmem
      obtain ⟨n, rfl⟩ : ∃ j, n = j + 1 := ⟨n - 1, by omega⟩
      have hi : i < xs.length := by omega
      have hx := List.getElem?_eq_getElem hi
      have hta := terms_at hx
      have htl := terms_le xs (i + 1)
      rw [F62.L3.succ, A1_len, ite'_t (lt_t hi)]
      obtain ⟨acc', e, h1, h2⟩ := inner i _ hx (xs[i]).2.length 0 (k + 1) n acc (by omega) (by omega) (by omega) (fun z => by simp [hmem z])
      rw [show ((0 : Nat) : Int) = 0 from rfl] at e
      rw [e]
      exact ih (i + 1) n acc' (by omega) (by omega) h1 h2
  have := outer xs.length 0 (k + 1) [] (by omega) (by omega) (by simp) (fun z => by simp [isVar])
  exact this
end Go.Proofs.Ytekcjghbfbfmpaa.Q4

/-! J4 -/
namespace Go.Proofs.Ytekcjghbfbfmpaa.Q4
open Go Ovi
variable {k : Nat}
noncomputable def vB (xs : List Atom) (z : Int) : Bool := @decide (isVar xs z) (Classical.propDecidable _)
theorem vB_mem {xs : List Atom} {vs : List Int} (h : ∀ z, z ∈ vs ↔ isVar xs z) (z : Int) : decide (z ∈ vs) = vB xs z := by
  unfold vB
  rw [Bool.eq_iff_iff]
  simp [h z]
/-- what both IsValidAtom say -/
def Valid (a : Ovi.Rows) (xs : List Atom) (valid : Atom → Bool) : Prop := ∀ x ∈ xs, ∀ k, a.length < k → x.2.length < k → C (k + 5) 116 [.d (.list 3 a), .agg [.d (.int .i64 x.1), .d (.list 1 (I1 x.2))]] = bo (valid x) ∧ C (k + 5) 63 [.d (.list 3 a), .agg [.d (.int .i64 x.1), .d (.list 1 (I1 x.2))]] = bo (valid x)
theorem valid_ex {a : Ovi.Rows} (ha : Fit Rl (.list 3 a)) (xs : List Atom) (hx : ∀ x ∈ xs, x.2.length ≤ maxLen) : ∃ valid, Valid a xs valid := by
  have : ∀ x : Atom, ∃ b, x ∈ xs → ∀ k, a.length < k → x.2.length < k → C (k + 5) 116 [.d (.list 3 a), .agg [.d (.int .i64 x.1), .d (.list 1 (I1 x.2))]] = bo b ∧ C (k + 5) 63 [.d (.list 3 a), .agg [.d (.int .i64 x.1), .d (.list 1 (I1 x.2))]] = bo b := by
    intro x
    by_cases h : x ∈ xs
    · obtain ⟨b, hb⟩ := atoms ha x (hx x h)
      exact ⟨b, fun _ => hb⟩
    · exact ⟨false, fun h' => absurd h' h⟩
  obtain ⟨valid, hv⟩ := Classical.axiomOfChoice this
  exact ⟨valid, fun x hx => hv x hx⟩
noncomputable def qOk (valid : Atom → Bool) (xs : List Atom) (out : List Int) : Bool := (decide ((1 : Int) ≤ (xs.length : Int) ∧ (xs.length : Int) ≤ 3) && xs.all valid) && (decide ((out.length : Int) ≤ 3) && out.all (vB xs))
theorem len_terms {xs : List Atom} {x : Atom} (h : x ∈ xs) : x.2.length ≤ terms xs := by
  induction xs with
  | nil => cases h
  | cons y ys ih =>
    have e : terms (y :: ys) = y.2.length + terms ys := by simp [terms]
    rw [e]
    rcases List.mem_cons.1 h with rfl | h
    · omega
    · have := ih h; omega
theorem any_not {α : Type} (l : List α) (p : α → Bool) : (!(l.any fun x => !p x)) = l.all p := by
  induction l with
  | nil => rfl
  | cons x l ih => rw [List.any_cons, List.all_cons, ← ih]; cases p x <;> simp
/-- impl.IsValidQuery -/
theorem c19 {a : Ovi.Rows} {xs : List Atom} {out : List Int} {valid : Atom → Bool} (hv : Valid a xs valid) (hk : 2000000 ≤ k) (ha : a.length ≤ 1048576) (hs : terms xs + xs.length ≤ 1048576) (ho : out.length ≤ 1048576) :
    C (k + 10) 19 [.d (.list 3 a), .agg [.d (.list 1 (I1 out)), .d (.list 2 (A1 xs))]] = bo (qOk valid xs out) := by
  have hmax : (1048576 : Nat) ≤ maxLen := by decide
  obtain ⟨vs, e, hm, hl⟩ := c67 (k := k + 8) xs (by omega) hs
  rw [F19.run, e]
  simp only [bindR_s, resO_s, bindL_s]
  have e68 : C (k + 9) 68 [.d (.list 3 a), .d (.list 2 (A1 xs)), .d (.int .i64 3)] = bo (decide ((1 : Int) ≤ (xs.length : Int) ∧ (xs.length : Int) ≤ 3) && xs.all valid) := by
    rw [F68.run, c113, bB, A1_len]
    cases decide ((1 : Int) ≤ (xs.length : Int) ∧ (xs.length : Int) ≤ 3) with
    | false => rfl
    | true =>
      rw [ite'_t rfl, c114 (k := k + 6) xs 115 [[.list 3 a]] (fun x => !valid x) (by omega) (by omega) (fun x hx => by
        have := len_terms hx
        rw [List.map_cons, List.map_nil, F115.run, (hv x hx k (by omega) (by omega)).1, bB]; rfl), bB]
      exact bo_eq (any_not xs valid)
  rw [e68, bB, I1_len]
  unfold qOk
  cases (decide ((1 : Int) ≤ (xs.length : Int) ∧ (xs.length : Int) ≤ 3) && xs.all valid) with
  | false => rfl
  | true =>
    rw [ite'_t rfl]
    by_cases h3 : (out.length : Int) ≤ 3
    · rw [ite'_t (by simpa using h3), c69 (k := k + 7) out 70 [[.list 1 (I1 vs)]] (fun z => !vB xs z) (by omega) (by omega) (fun z hz => by
        rw [List.map_cons, List.map_nil, F70.run, c71 (k := k + 4) vs z (by omega) (by omega), bB, vB_mem hm]; rfl), bB, decide_eq_true h3]
      exact bo_eq (any_not out (vB xs))
    · rw [ite'_f (by simpa using h3), decide_eq_false h3]
      rfl
/-- spec.IsValidQuery -/
theorem c17 {a : Ovi.Rows} {xs : List Atom} {out : List Int} {valid : Atom → Bool} (hv : Valid a xs valid) (hk : 2000000 ≤ k) (ha : a.length ≤ 1048576) (hs : terms xs + xs.length ≤ 1048576) (ho : out.length ≤ 1048576) :
    C (k + 10) 17 [.d (.list 3 a), .agg [.d (.list 1 (I1 out)), .d (.list 2 (A1 xs))]] = bo (qOk valid xs out) := by
  have hmax : (1048576 : Nat) ≤ maxLen := by decide
  obtain ⟨vs, e, hm, hl⟩ := c62 (k := k + 7) xs (by omega) hs
  rw [F17.run, e]
  simp only [bindR_s, resL_d, bindL_s]
  have l8 : F17.L8 (k + 9) (C (k + 9)) (k + 9) (I1 vs) 0 (I1 out) (A1 xs) = cond (out.any fun z => !vB xs z) (bo false) (bo (decide ((1 : Int) ≤ (xs.length : Int) ∧ (xs.length : Int) ≤ 3) && decide ((out.length : Int) ≤ 3))) :=
    loop_any (xs := out) (L := fun n i => F17.L8 (k + 9) (C (k + 9)) n (I1 vs) i (I1 out) (A1 xs)) (stop := fun z => !vB xs z)
      (fun n i z hz => by
        have hi := (List.getElem?_eq_some_iff.1 hz).1
        rw [F17.L8.succ, I1_len, ite'_t (lt_t hi), ite'_t (inR_t hi)]
        simp only [Int.toNat_natCast, cellI_at (I1_get' hz), List.getElem?_cons_zero, Option.bind_some, asI_s, bindI_s]
        rw [c64 (k := k + 8) vs z (by omega) (by omega), bB, vB_mem hm, next_i hi (m := out.length) (by omega)]; rfl)
      (fun n => by
        rw [F17.L8.succ, I1_len, ite'_f (lt_f (by omega)), c65, bB, A1_len]
        cases decide ((1 : Int) ≤ (xs.length : Int) ∧ (xs.length : Int) ≤ 3) <;> rfl) (k + 9) (by omega)
  have l3 : F17.L3 (k + 9) (C (k + 9)) (k + 9) a (I1 vs) 0 (I1 out) (A1 xs) = cond (xs.any fun x => !valid x) (bo false) (F17.L8 (k + 9) (C (k + 9)) (k + 9) (I1 vs) 0 (I1 out) (A1 xs)) :=
    loop_any (xs := xs) (L := fun n i => F17.L3 (k + 9) (C (k + 9)) n a (I1 vs) i (I1 out) (A1 xs)) (stop := fun x => !valid x)
      (fun n i x hx => by
        have hi := (List.getElem?_eq_some_iff.1 hx).1
        have := len_terms (List.mem_of_getElem? hx)
        rw [F17.L3.succ, A1_len, ite'_t (lt_t hi), ite'_t (inR_t hi)]
        simp only [Int.toNat_natCast, cellI_at (A1_get hx), cellL_at (A1_get hx), List.getElem?_cons_zero, List.getElem?_cons_succ, Option.bind_some, asI_s, asL_s, bindI_s, bindL_s]
        rw [(hv x (List.mem_of_getElem? hx) (k + 4) (by omega) (by omega)).2, bB, next_i hi (m := xs.length) (by omega)]; rfl)
      (fun n => by rw [F17.L3.succ, A1_len, ite'_f (lt_f (by omega))]) (k + 9) (by omega)
  rw [l3, l8]
  unfold qOk
  rw [← any_not xs valid, ← any_not out (vB xs)]
  cases (xs.any fun x => !valid x) <;> cases (out.any fun z => !vB xs z) <;> cases decide ((1 : Int) ≤ (xs.length : Int) ∧ (xs.length : Int) ≤ 3) <;> cases decide ((out.length : Int) ≤ 3) <;> rfl
def In1 : Ty := .list [.int .i64]
def At : Ty := .list [.int .i64, .list [.int .i64]]
theorem sz_atoms {xs : List Atom} : szD (.list 2 (A1 xs)) = xs.length + terms xs := by
  simp only [szD, A1_len, szR_A1]
  rfl
theorem sz_ints {zs : List Int} : szD (.list 1 (I1 zs)) = zs.length := by simp only [szD, I1_len, szR_I1, Nat.add_zero]
theorem sz_rels {a : Ovi.Rows} : a.length ≤ szD (.list 3 a) := by simp only [szD]; omega
/-- the law of IsValidQuery -/
theorem law4 (hk : 3000000 ≤ k) {a b c : Ovi.Rows} (h1 : Fit Rl (.list 3 a)) (h2 : Fit In1 (.list 1 b)) (h3 : Fit At (.list 2 c)) : C k 4 [.d (.list 3 a), .agg [.d (.list 1 b), .d (.list 2 c)]] = bo true := by
  obtain ⟨k, rfl⟩ : ∃ j, k = j + 11 := ⟨k - 11, by omega⟩
  have hmax : (1048576 : Nat) ≤ maxLen := by decide
  rw [F4.run, c16 (k := k + 10) (by omega) h1 (by omega) (by omega)]
  simp only [bindR_s, resI_s, bindI_s]
  rcases szT_cases 1048576 (szD (.list 3 a)) with ⟨q, e⟩ | ⟨q, e⟩ <;> rw [e]
  rotate_left
  · rw [ite'_t neg_t]; rfl
  rw [ite'_f (neg_f (by omega)), c11 (k := k + 10) (by omega) h2 h3 (by omega) (by omega)]
  simp only [bindR_s, resI_s, bindI_s]
  rcases szT_cases (1048576 - ((szD (.list 3 a) : Nat) : Int)) (szC [.list 1 b, .list 2 c]) with ⟨q1, e1⟩ | ⟨q1, e1⟩ <;> rw [e1]
  rotate_left
  · rw [ite'_t neg_t]; rfl
  have q2 := q1
  simp only [szC] at q2
  have s0 : szD (.list 3 a) ≤ 1048576 := by omega
  have s1 : szD (.list 1 b) ≤ 1048576 := by omega
  have s2 : szD (.list 2 c) ≤ 1048576 := by omega
  rw [ite'_f (neg_f (by omega)), c18 (k := k + 10) (by omega) h1 s0, c13 (k := k + 10) (by omega) h2 h3 s1 s2]
  simp only [bindR_s, resO_s, F13x0, F13x1, bindL_s]
  obtain ⟨zs, rfl⟩ := h2.ints
  obtain ⟨xs, rfl⟩ := h3.atoms
  have s1' := s1
  have s2' := s2
  rw [sz_ints] at s1'
  rw [sz_atoms] at s2'
  have s0' := Nat.le_trans sz_rels s0
  obtain ⟨valid, hv⟩ := valid_ex h1 xs (fun x hx => by have := len_terms hx; omega)
  rw [c17 hv (by omega) s0' (by omega) s1', bB, c19 hv (by omega) s0' (by omega) s1', bB, ite'_f (by simp), c20 (k := k + 10) (by omega) h1 s0, c15 (k := k + 10) (by omega) h2 h3 s1 s2]
  rfl
/-- the law of IsValidInequality -/
theorem law5 (hk : 3000000 ≤ k) {a b c : Ovi.Rows} {l r : Int} (h1 : Fit Rl (.list 3 a)) (h2 : Fit In1 (.list 1 b)) (h3 : Fit At (.list 2 c)) : C k 5 [.d (.list 3 a), .agg [.d (.list 1 b), .d (.list 2 c), .d (.int .i64 l), .d (.int .i64 r)]] = bo true := by
  obtain ⟨k, rfl⟩ : ∃ j, k = j + 12 := ⟨k - 12, by omega⟩
  have hmax : (1048576 : Nat) ≤ maxLen := by decide
  rw [F5.run, c16 (k := k + 11) (by omega) h1 (by omega) (by omega)]
  simp only [bindR_s, resI_s, bindI_s]
  rcases szT_cases 1048576 (szD (.list 3 a)) with ⟨q, e⟩ | ⟨q, e⟩ <;> rw [e]
  rotate_left
  · rw [ite'_t neg_t]; rfl
  rw [ite'_f (neg_f (by omega)), c21 (k := k + 11) (by omega) h2 h3 (by omega) (by omega)]
  simp only [bindR_s, resI_s, bindI_s]
  rcases szT_cases (1048576 - ((szD (.list 3 a) : Nat) : Int)) (szC [.list 1 b, .list 2 c, .int .i64 l, .int .i64 r]) with ⟨q1, e1⟩ | ⟨q1, e1⟩ <;> rw [e1]
  rotate_left
  · rw [ite'_t neg_t]; rfl
  have q2 := q1
  simp only [szC] at q2
  have s0 : szD (.list 3 a) ≤ 1048576 := by omega
  have s1 : szD (.list 1 b) ≤ 1048576 := by omega
  have s2 : szD (.list 2 c) ≤ 1048576 := by omega
  rw [ite'_f (neg_f (by omega)), c18 (k := k + 11) (by omega) h1 s0, c23 (k := k + 11) (by omega) h2 h3 s1 s2]
  simp only [bindR_s, resO_s, F23x0, F23x1, F23x2, F23x3, bindL_s, bindI_s]
  obtain ⟨zs, rfl⟩ := h2.ints
  obtain ⟨xs, rfl⟩ := h3.atoms
  have s1' := s1
  have s2' := s2
  rw [sz_ints] at s1'
  rw [sz_atoms] at s2'
  have s0' := Nat.le_trans sz_rels s0
  obtain ⟨valid, hv⟩ := valid_ex h1 xs (fun x hx => by have := len_terms hx; omega)
  obtain ⟨vs, e67, hm, hl⟩ := c67 (k := k + 9) xs (by omega) (by omega)
  obtain ⟨ws, e62, hm', hl'⟩ := c62 (k := k + 8) xs (by omega) (by omega)
  have e22 : C (k + 11) 22 [.d (.list 3 a), .agg [.d (.list 1 (I1 zs)), .d (.list 2 (A1 xs)), .d (.int .i64 l), .d (.int .i64 r)]] = bo (qOk valid xs zs && (vB xs l && (vB xs r && (l != r)))) := by
    rw [F22.run, e62]
    simp only [bindR_s, resL_d, bindL_s]
    rw [c17 hv (by omega) s0' (by omega) s1', bB, c64 (k := k + 9) ws l (by omega) (by omega), c64 (k := k + 9) ws r (by omega) (by omega), vB_mem hm', vB_mem hm', bB, bB]
    cases qOk valid xs zs <;> cases vB xs l <;> cases vB xs r <;> rfl
  have e24 : C (k + 11) 24 [.d (.list 3 a), .agg [.d (.list 1 (I1 zs)), .d (.list 2 (A1 xs)), .d (.int .i64 l), .d (.int .i64 r)]] = bo (qOk valid xs zs && (vB xs l && (vB xs r && (l != r)))) := by
    rw [F24.run, e67]
    simp only [bindR_s, resO_s, bindL_s]
    rw [c19 hv (by omega) s0' (by omega) s1', bB, c71 (k := k + 8) vs l (by omega) (by omega), c71 (k := k + 8) vs r (by omega) (by omega), vB_mem hm, vB_mem hm, bB, bB]
    cases qOk valid xs zs <;> cases vB xs l <;> cases vB xs r <;> cases (l != r) <;> rfl
  rw [e22, bB, e24, bB, ite'_f (by simp), c20 (k := k + 11) (by omega) h1 s0, c25 (k := k + 11) (by omega) h2 h3 s1 s2]
  rfl
end Go.Proofs.Ytekcjghbfbfmpaa.Q4

/-! S4 -/
namespace Go.Proofs.Ytekcjghbfbfmpaa.Q4
open Go Ovi Go.RowKit
theorem ok : progOk Try.prog = true := by kernel_rfl
theorem mixed : Try.prog.follows .mixedOrders = true := by kernel_rfl
theorem bare (k : Nat) : Sound Try.prog (evCall Try.prog hs (fun _ => none) k) := evCall_ok (drawSound mixed) (okProg ok) (fun _ _ => rfl) (sound_none _) k
theorem sort_nil : evCall Try.prog hs (fun _ => none) 8 111 [.d (.list 1 [])] = some [] := by kernel_rfl
theorem sortC : SortC Try.prog 111 where
  known := ⟨Try.f111, Try.func111, rfl, by kernel_rfl⟩
  run := fun blk off cap zs w hH hb hl => Any.slices_Sort_int Try.lays189 blk off cap zs w hH hb hl
  nil := fun A w => by
    refine ((bare 8).plain 111 _ _ sort_nil w (fun _ => False) (fun _ => False) #[.slice A 0 0] (fun _ h => h.elim) (fun _ h => h.elim) ⟨rfl, fun j a ha => ?_⟩).mono fun e w' ⟨v, S', mr, he, hb, _, _, hr⟩ => ?_
    · cases j with
      | zero => cases ha; exact ⟨_, rfl, RD.nil A 1⟩
      | succ j => simp at ha
    · obtain ⟨⟨vs, h1, h2, _⟩, _⟩ := hr
      obtain rfl := List.eq_nil_of_length_eq_zero h2
      exact ⟨by rw [he, h1], hb⟩
theorem compactC : CompactC Try.prog 112 where
  known := ⟨Try.f112, Try.func112, rfl, by kernel_rfl⟩
  run := fun blk off cap zs w hH hb hl => Any.slices_Compact_int Try.lays2n20 blk off cap zs w hH hb hl
  nil := fun A cap w => Any.slices_Compact_int_empty Try.lays2n20 A cap w
theorem sound (k : Nat) : Sound Try.prog (C k) := evCall_ok (drawSound mixed) (okProg ok) (fun _ _ => rfl) (sound2 sortC compactC) k
end Go.Proofs.Ytekcjghbfbfmpaa.Q4

/-! E4 -/
namespace Go.Proofs.Ytekcjghbfbfmpaa.Q4
open Go Ovi Go.ChangeShapes Go.WideShapes Go.ChangeAt Go.RowKit
theorem own : ownKnob Try.prog.godebug = none := by kernel_rfl
theorem laidOut : laidOutB Try.prog = true := by kernel_rfl
def ty4 : List (Bool × List Ty) := [(false, [.list [.str, .int .i64, .bool]]), (true, [.list [.int .i64], .list [.int .i64, .list [.int .i64]]])]
theorem tys4 : parTys Try.prog Try.f4.params.toList = some ty4 := by kernel_rfl
theorem readable4 : readable Try.prog Try.f4.params.toList = true := by kernel_rfl
theorem law_args4 {av : List AV} (h : ArgsFit ty4 av) : C 3000000 4 av = some yes := by
  match av, h with
  | [p0, p1], h =>
    simp only [ty4, ArgsFit, and_true] at h
    obtain ⟨g0, g1⟩ := h
    cases p0 <;> simp only [ArgFit] at g0
    obtain ⟨_, rfl, g0⟩ := g0.list (n := 3) rfl
    cases p1 <;> simp only [ArgFit] at g1
    obtain ⟨ds1, rfl, g1⟩ := g1
    obtain ⟨_, _, rfl, e1_0, g1⟩ := Fits.cons g1
    obtain ⟨_, _, rfl, e1_1, g1⟩ := Fits.cons g1
    obtain rfl := Fits.nil g1
    obtain ⟨_, rfl, e1_0⟩ := e1_0.list (n := 1) rfl
    obtain ⟨_, rfl, e1_1⟩ := e1_1.list (n := 2) rfl
    exact law4 (Nat.le_refl _) g0 e1_0 e1_1
set_option maxRecDepth 100000 in
theorem lifted4 (os : Os) (started : os.Started) (H : Type) (enc : TypeId × Value → H) :
    ReturnsInHanded {} Try.checked os 4 .any (Rows.fnExactIsValidQuerySpec.pre6 enc Try.prog Try.f4 Rows.fnExactIsValidQueryRow.domain false) (Rows.fnExactIsValidQuerySpec.post enc Try.prog Try.f4 false true false false) := by
  refine returnsInHanded_of_change (C := Try.checked) own started (by kernel_rfl) Try.func4
    (ChangeSpec.witness6 (enc := enc) (C := Try.checked) false ⟨#[], #[.slice none 0 0, .agg #[.slice none 0 0, .slice none 0 0]], []⟩ 8 (by kernel_rfl) (by kernel_rfl) (by kernel_rfl) (by kernel_rfl)) ?_
  intro W base args ds gs before hval0 hW hcnd _
  have hval : ∀ (j : Nat) t v, Try.f4.params[j]? = some t → args[j]? = some v → Value.okWide Try.prog W .any base t v := hval0
  have hW' := hW
  obtain ⟨p, q, hA0, hV, rfl, hfz, hnd⟩ := hW
  have hA : DataW.TrodAll enc Try.prog W 0 (fun _ => true) true Try.f4.params.toList args.toList ds p := hA0
  obtain ⟨rfl, rfl⟩ := trodVars_none hV
  obtain ⟨av, hfit, hlen, hac⟩ := args_in hA (base := base) (fun j t v h1 h2 => hval j t v (by simpa using h1) (by simpa using h2)) tys4
  refine (calls_yes (sound 3000000) (law_args4 hfit) (vs := args) ⟨by simpa using hlen, fun j a ha => by
    obtain ⟨u, hu, hc⟩ := hac j a ha
    exact ⟨u, by simpa using hu, hc⟩⟩).mono fun e W' ⟨he, bel⟩ => ?_
  subst he
  have hk := kept_all laidOut bel readable4 hA
  obtain ⟨d0, d1, rfl⟩ : ∃ d0 d1, ds = [d0, d1] := by
    obtain ⟨v0, vs0, d0, ds0, p0, q0, rg0, rfl, rfl, h0, r0⟩ := trodAll_cons hA
    obtain ⟨v1, vs1, d1, ds1, p1, q1, rg1, rfl, rfl, h1, r1⟩ := trodAll_cons r0
    obtain ⟨rfl, rfl, rfl⟩ := trodAll_nil r1
    exact ⟨_, _, rfl⟩
  exact ⟨_, rfl, _, _, _, [], _, [], hW', trodAll_mk1 (shut_bool (show Try.prog.underlying 4 = some .bool by kernel_rfl) _), hk, rfl, bel.frame _, fun h => by cases h⟩
theorem over4 : Rows.fnExactIsValidQueryRow.holds Try.pinned (OpenSpec.ofChange Rows.fnExactIsValidQuerySpec) :=
  OpenClaim.holds_of_wide 4 Try.f4 rfl rfl rfl rfl rfl rfl rfl ⟨rfl, rfl, rfl, rfl, rfl⟩ rfl rfl rfl rfl rfl (by kernel_rfl) Try.func4 (by kernel_rfl)
    (of_decide_eq_true (by kernel_rfl)) (by unfold Func.isWrapper; first | (rw [if_pos (by decide +kernel)]; kernel_rfl) | (rw [if_neg (by decide +kernel)]; exact ⟨rfl, rfl⟩))
    (fun os started H enc _ => lifted4 os started H enc)
def ty5 : List (Bool × List Ty) := [(false, [.list [.str, .int .i64, .bool]]), (true, [.list [.int .i64], .list [.int .i64, .list [.int .i64]], .int .i64, .int .i64])]
theorem tys5 : parTys Try.prog Try.f5.params.toList = some ty5 := by kernel_rfl
theorem readable5 : readable Try.prog Try.f5.params.toList = true := by kernel_rfl
theorem law_args5 {av : List AV} (h : ArgsFit ty5 av) : C 3000000 5 av = some yes := by
  match av, h with
  | [p0, p1], h =>
    simp only [ty5, ArgsFit, and_true] at h
    obtain ⟨g0, g1⟩ := h
    cases p0 <;> simp only [ArgFit] at g0
    obtain ⟨_, rfl, g0⟩ := g0.list (n := 3) rfl
    cases p1 <;> simp only [ArgFit] at g1
    obtain ⟨ds1, rfl, g1⟩ := g1
    obtain ⟨_, _, rfl, e1_0, g1⟩ := Fits.cons g1
    obtain ⟨_, _, rfl, e1_1, g1⟩ := Fits.cons g1
    obtain ⟨_, _, rfl, e1_2, g1⟩ := Fits.cons g1
    obtain ⟨_, _, rfl, e1_3, g1⟩ := Fits.cons g1
    obtain rfl := Fits.nil g1
    obtain ⟨_, rfl, e1_0⟩ := e1_0.list (n := 1) rfl
    obtain ⟨_, rfl, e1_1⟩ := e1_1.list (n := 2) rfl
    obtain ⟨_, rfl, we1_2⟩ := e1_2.int
    obtain ⟨_, rfl, we1_3⟩ := e1_3.int
    exact law5 (Nat.le_refl _) g0 e1_0 e1_1
set_option maxRecDepth 100000 in
theorem lifted5 (os : Os) (started : os.Started) (H : Type) (enc : TypeId × Value → H) :
    ReturnsInHanded {} Try.checked os 5 .any (Rows.fnExactIsValidInequalitySpec.pre6 enc Try.prog Try.f5 Rows.fnExactIsValidInequalityRow.domain false) (Rows.fnExactIsValidInequalitySpec.post enc Try.prog Try.f5 false true false false) := by
  refine returnsInHanded_of_change (C := Try.checked) own started (by kernel_rfl) Try.func5
    (ChangeSpec.witness6 (enc := enc) (C := Try.checked) false ⟨#[], #[.slice none 0 0, .agg #[.slice none 0 0, .slice none 0 0, .int .i64 0, .int .i64 0]], []⟩ 8 (by kernel_rfl) (by kernel_rfl) (by kernel_rfl) (by kernel_rfl)) ?_
  intro W base args ds gs before hval0 hW hcnd _
  have hval : ∀ (j : Nat) t v, Try.f5.params[j]? = some t → args[j]? = some v → Value.okWide Try.prog W .any base t v := hval0
  have hW' := hW
  obtain ⟨p, q, hA0, hV, rfl, hfz, hnd⟩ := hW
  have hA : DataW.TrodAll enc Try.prog W 0 (fun _ => true) true Try.f5.params.toList args.toList ds p := hA0
  obtain ⟨rfl, rfl⟩ := trodVars_none hV
  obtain ⟨av, hfit, hlen, hac⟩ := args_in hA (base := base) (fun j t v h1 h2 => hval j t v (by simpa using h1) (by simpa using h2)) tys5
  refine (calls_yes (sound 3000000) (law_args5 hfit) (vs := args) ⟨by simpa using hlen, fun j a ha => by
    obtain ⟨u, hu, hc⟩ := hac j a ha
    exact ⟨u, by simpa using hu, hc⟩⟩).mono fun e W' ⟨he, bel⟩ => ?_
  subst he
  have hk := kept_all laidOut bel readable5 hA
  obtain ⟨d0, d1, rfl⟩ : ∃ d0 d1, ds = [d0, d1] := by
    obtain ⟨v0, vs0, d0, ds0, p0, q0, rg0, rfl, rfl, h0, r0⟩ := trodAll_cons hA
    obtain ⟨v1, vs1, d1, ds1, p1, q1, rg1, rfl, rfl, h1, r1⟩ := trodAll_cons r0
    obtain ⟨rfl, rfl, rfl⟩ := trodAll_nil r1
    exact ⟨_, _, rfl⟩
  exact ⟨_, rfl, _, _, _, [], _, [], hW', trodAll_mk1 (shut_bool (show Try.prog.underlying 4 = some .bool by kernel_rfl) _), hk, rfl, bel.frame _, fun h => by cases h⟩
theorem over5 : Rows.fnExactIsValidInequalityRow.holds Try.pinned (OpenSpec.ofChange Rows.fnExactIsValidInequalitySpec) :=
  OpenClaim.holds_of_wide 5 Try.f5 rfl rfl rfl rfl rfl rfl rfl ⟨rfl, rfl, rfl, rfl, rfl⟩ rfl rfl rfl rfl rfl (by kernel_rfl) Try.func5 (by kernel_rfl)
    (of_decide_eq_true (by kernel_rfl)) (by unfold Func.isWrapper; first | (rw [if_pos (by decide +kernel)]; kernel_rfl) | (rw [if_neg (by decide +kernel)]; exact ⟨rfl, rfl⟩))
    (fun os started H enc _ => lifted5 os started H enc)
end Go.Proofs.Ytekcjghbfbfmpaa.Q4
namespace Go.Proofs.Ytekcjghbfbfmpaa
theorem fnExactIsValidQuery_holds : Rows.FnExactIsValidQuerySaid := Q4.over4
#print axioms fnExactIsValidQuery_holds
theorem fnExactIsValidInequality_holds : Rows.FnExactIsValidInequalitySaid := Q4.over5
#print axioms fnExactIsValidInequality_holds
end Go.Proofs.Ytekcjghbfbfmpaa

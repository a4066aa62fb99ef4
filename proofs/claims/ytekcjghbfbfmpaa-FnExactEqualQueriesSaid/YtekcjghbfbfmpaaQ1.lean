/-
For every two queries the law FnExactEqualQueries returns true, and both read afterwards as they read before. No condition.
-/
import Derived.Test.YtekcjghbfbfmpaaProg
import Derived.Test.YtekcjghbfbfmpaaOb
import Derived.KernelRfl
import Derived.Test.YtekcjghbfbfmpaaRows
set_option linter.unusedVariables false
set_option linter.unusedSimpArgs false
/-! F1 -/
namespace Go.Proofs.Ytekcjghbfbfmpaa.Q1
open Go Ovi
noncomputable abbrev P := Try.prog
def sg : FuncId → Sig := fun f => match f with
  | 3 => [(false, [.bool])]
  | 11 => [(false, [.int .i64])]
  | 12 => [(false, [.bool])]
  | 13 => [(true, [.own 3 1, .own 95 2])]
  | 14 => [(false, [.bool])]
  | 15 => [(false, [.bool])]
  | 29 => [(false, [.own 3 1])]
  | 32 => [(false, [.bool])]
  | 52 => [(false, [.int .i64])]
  | 53 => [(false, [.int .i64])]
  | 54 => [(false, [.int .i64])]
  | 55 => [(false, [.bool])]
  | 56 => [(false, [.own 95 2])]
  | 57 => [(false, [.bool])]
  | 58 => [(false, [.bool])]
  | 59 => [(false, [.bool])]
  | 60 => [(false, [.bool])]
  | 106 => [(false, [.int .i64])]
  | 107 => [(true, [.int .i64, .own 3 1])]
  | 108 => [(false, [.bool])]
  | _ => []
def lp : FuncId → Nat → LoopHint := fun f l => match f, l with
  | 29, 3 => [(0, .same), (3, .own 3 1), (4, .same)]
  | 32, 4 => [(0, .same), (1, .same), (5, .same)]
  | 53, 5 => [(0, .same), (1, .same), (5, .same)]
  | 54, 2 => [(0, .same), (1, .same), (5, .same)]
  | 55, 4 => [(0, .same), (1, .same), (5, .same)]
  | 56, 3 => [(0, .same), (3, .own 95 2), (4, .same)]
  | 57, 4 => [(0, .same), (1, .same), (12, .same), (13, .same)]
  | 58, 4 => [(1, .same), (2, .same), (15, .same), (16, .same), (17, .same)]
  | 60, 4 => [(0, .same), (1, .same), (5, .same)]
  | _, _ => []
def hs : Hints := { sig := sg, loops := lp, joins := fun _ _ => none }

def prim : FuncId → Option (Args → Option Res) := fun _ => none
noncomputable def C (k : Nat) : CallF := evCall P hs prim k
set_option maxRecDepth 1000000
theorem F3.eq (k : Nat) (call : CallF) (a0_0 : Ovi.Rows) (a0_1 : Ovi.Rows) (a1_0 : Ovi.Rows) (a1_1 : Ovi.Rows) : evFnK P hs call (3 : FuncId) k Try.f3 [AV.agg [AV.d (D.list 1 a0_0), AV.d (D.list 2 a0_1)], AV.agg [AV.d (D.list 1 a1_0), AV.d (D.list 2 a1_1)]] = bindR (call 11 [AV.agg [AV.d (D.list 1 a0_0), AV.d (D.list 2 a0_1)], AV.d (D.int IntKind.i64 (1048576 : Int))]) fun r6 => bindI (resI IntKind.i64 1 false 1 r6 0 0) fun n7 => ite' (decide (n7 < (0 : Int))) (some ([(false, [RL.d (D.bool true)])])) (bindR (call 11 [AV.agg [AV.d (D.list 1 a1_0), AV.d (D.list 2 a1_1)], AV.d (D.int IntKind.i64 n7)]) fun r8 => bindI (resI IntKind.i64 1 false 1 r8 0 0) fun n9 => ite' (decide (n9 < (0 : Int))) (some ([(false, [RL.d (D.bool true)])])) (bindR (call 13 [AV.agg [AV.d (D.list 1 a0_0), AV.d (D.list 2 a0_1)]]) fun r10 => bindL (resO 3 1 1 true 2 r10 0 0) fun l11 => bindL (resO 95 2 1 true 2 r10 0 1) fun l12 => bindR (call 13 [AV.agg [AV.d (D.list 1 a1_0), AV.d (D.list 2 a1_1)]]) fun r13 => bindL (resO 3 1 1 true 2 r13 0 0) fun l14 => bindL (resO 95 2 1 true 2 r13 0 1) fun l15 => bindR (call 12 [AV.agg [AV.d (D.list 1 l11), AV.d (D.list 2 l12)], AV.agg [AV.d (D.list 1 l14), AV.d (D.list 2 l15)]]) fun r16 => bindB (resB 1 false 1 r16 0 0) fun b17 => bindR (call 13 [AV.agg [AV.d (D.list 1 a0_0), AV.d (D.list 2 a0_1)]]) fun r18 => bindL (resO 3 1 1 true 2 r18 0 0) fun l19 => bindL (resO 95 2 1 true 2 r18 0 1) fun l20 => bindR (call 13 [AV.agg [AV.d (D.list 1 a1_0), AV.d (D.list 2 a1_1)]]) fun r21 => bindL (resO 3 1 1 true 2 r21 0 0) fun l22 => bindL (resO 95 2 1 true 2 r21 0 1) fun l23 => bindR (call 14 [AV.agg [AV.d (D.list 1 l19), AV.d (D.list 2 l20)], AV.agg [AV.d (D.list 1 l22), AV.d (D.list 2 l23)]]) fun r24 => bindB (resB 1 false 1 r24 0 0) fun b25 => ite' (!b25 == b17) (some ([(false, [RL.d (D.bool false)])])) (bindR (call 13 [AV.agg [AV.d (D.list 1 a0_0), AV.d (D.list 2 a0_1)]]) fun r26 => bindL (resO 3 1 1 true 2 r26 0 0) fun l27 => bindL (resO 95 2 1 true 2 r26 0 1) fun l28 => bindR (call 15 [AV.agg [AV.d (D.list 1 l19), AV.d (D.list 2 l20)], AV.agg [AV.d (D.list 1 l27), AV.d (D.list 2 l28)]]) fun r29 => bindB (resB 1 false 1 r29 0 0) fun b30 => ite' (!b30) (some ([(false, [RL.d (D.bool false)])])) (bindR (call 13 [AV.agg [AV.d (D.list 1 a1_0), AV.d (D.list 2 a1_1)]]) fun r31 => bindL (resO 3 1 1 true 2 r31 0 0) fun l32 => bindL (resO 95 2 1 true 2 r31 0 1) fun l33 => bindR (call 15 [AV.agg [AV.d (D.list 1 l22), AV.d (D.list 2 l23)], AV.agg [AV.d (D.list 1 l32), AV.d (D.list 2 l33)]]) fun r34 => bindB (resB 1 false 1 r34 0 0) fun b35 => ite' (!b35) (some ([(false, [RL.d (D.bool false)])])) (some ([(false, [RL.d (D.bool true)])])))))) := by kernel_rfl
theorem F3.run (k : Nat) (a0_0 : Ovi.Rows) (a0_1 : Ovi.Rows) (a1_0 : Ovi.Rows) (a1_1 : Ovi.Rows) : C (k + 1) 3 [AV.agg [AV.d (D.list 1 a0_0), AV.d (D.list 2 a0_1)], AV.agg [AV.d (D.list 1 a1_0), AV.d (D.list 2 a1_1)]] = bindR ((C k) 11 [AV.agg [AV.d (D.list 1 a0_0), AV.d (D.list 2 a0_1)], AV.d (D.int IntKind.i64 (1048576 : Int))]) fun r6 => bindI (resI IntKind.i64 1 false 1 r6 0 0) fun n7 => ite' (decide (n7 < (0 : Int))) (some ([(false, [RL.d (D.bool true)])])) (bindR ((C k) 11 [AV.agg [AV.d (D.list 1 a1_0), AV.d (D.list 2 a1_1)], AV.d (D.int IntKind.i64 n7)]) fun r8 => bindI (resI IntKind.i64 1 false 1 r8 0 0) fun n9 => ite' (decide (n9 < (0 : Int))) (some ([(false, [RL.d (D.bool true)])])) (bindR ((C k) 13 [AV.agg [AV.d (D.list 1 a0_0), AV.d (D.list 2 a0_1)]]) fun r10 => bindL (resO 3 1 1 true 2 r10 0 0) fun l11 => bindL (resO 95 2 1 true 2 r10 0 1) fun l12 => bindR ((C k) 13 [AV.agg [AV.d (D.list 1 a1_0), AV.d (D.list 2 a1_1)]]) fun r13 => bindL (resO 3 1 1 true 2 r13 0 0) fun l14 => bindL (resO 95 2 1 true 2 r13 0 1) fun l15 => bindR ((C k) 12 [AV.agg [AV.d (D.list 1 l11), AV.d (D.list 2 l12)], AV.agg [AV.d (D.list 1 l14), AV.d (D.list 2 l15)]]) fun r16 => bindB (resB 1 false 1 r16 0 0) fun b17 => bindR ((C k) 13 [AV.agg [AV.d (D.list 1 a0_0), AV.d (D.list 2 a0_1)]]) fun r18 => bindL (resO 3 1 1 true 2 r18 0 0) fun l19 => bindL (resO 95 2 1 true 2 r18 0 1) fun l20 => bindR ((C k) 13 [AV.agg [AV.d (D.list 1 a1_0), AV.d (D.list 2 a1_1)]]) fun r21 => bindL (resO 3 1 1 true 2 r21 0 0) fun l22 => bindL (resO 95 2 1 true 2 r21 0 1) fun l23 => bindR ((C k) 14 [AV.agg [AV.d (D.list 1 l19), AV.d (D.list 2 l20)], AV.agg [AV.d (D.list 1 l22), AV.d (D.list 2 l23)]]) fun r24 => bindB (resB 1 false 1 r24 0 0) fun b25 => ite' (!b25 == b17) (some ([(false, [RL.d (D.bool false)])])) (bindR ((C k) 13 [AV.agg [AV.d (D.list 1 a0_0), AV.d (D.list 2 a0_1)]]) fun r26 => bindL (resO 3 1 1 true 2 r26 0 0) fun l27 => bindL (resO 95 2 1 true 2 r26 0 1) fun l28 => bindR ((C k) 15 [AV.agg [AV.d (D.list 1 l19), AV.d (D.list 2 l20)], AV.agg [AV.d (D.list 1 l27), AV.d (D.list 2 l28)]]) fun r29 => bindB (resB 1 false 1 r29 0 0) fun b30 => ite' (!b30) (some ([(false, [RL.d (D.bool false)])])) (bindR ((C k) 13 [AV.agg [AV.d (D.list 1 a1_0), AV.d (D.list 2 a1_1)]]) fun r31 => bindL (resO 3 1 1 true 2 r31 0 0) fun l32 => bindL (resO 95 2 1 true 2 r31 0 1) fun l33 => bindR ((C k) 15 [AV.agg [AV.d (D.list 1 l22), AV.d (D.list 2 l23)], AV.agg [AV.d (D.list 1 l32), AV.d (D.list 2 l33)]]) fun r34 => bindB (resB 1 false 1 r34 0 0) fun b35 => ite' (!b35) (some ([(false, [RL.d (D.bool false)])])) (some ([(false, [RL.d (D.bool true)])])))))) := (show C (k + 1) 3 [AV.agg [AV.d (D.list 1 a0_0), AV.d (D.list 2 a0_1)], AV.agg [AV.d (D.list 1 a1_0), AV.d (D.list 2 a1_1)]] = evFnK P hs (C k) 3 k Try.f3 [AV.agg [AV.d (D.list 1 a0_0), AV.d (D.list 2 a0_1)], AV.agg [AV.d (D.list 1 a1_0), AV.d (D.list 2 a1_1)]] by kernel_rfl).trans (F3.eq k (C k) a0_0 a0_1 a1_0 a1_1)
theorem F11.eq (k : Nat) (call : CallF) (a0_0 : Ovi.Rows) (a0_1 : Ovi.Rows) (a1 : Int) : evFnK P hs call (11 : FuncId) k Try.f11 [AV.agg [AV.d (D.list 1 a0_0), AV.d (D.list 2 a0_1)], AV.d (D.int IntKind.i64 a1)] = bindR (call 52 [AV.d (D.list 1 a0_0), AV.d (D.int IntKind.i64 a1)]) fun r5 => bindI (resI IntKind.i64 1 false 1 r5 0 0) fun n6 => ite' (decide (n6 < (0 : Int))) (some ([(false, [RL.d (D.int IntKind.i64 (-1 : Int))])])) (bindR (call 53 [AV.d (D.list 2 a0_1), AV.d (D.int IntKind.i64 n6)]) fun r7 => bindI (resI IntKind.i64 1 false 1 r7 0 0) fun n8 => ite' (decide (n8 < (0 : Int))) (some ([(false, [RL.d (D.int IntKind.i64 (-1 : Int))])])) (some ([(false, [RL.d (D.int IntKind.i64 n8)])]))) := by kernel_rfl
theorem F11.run (k : Nat) (a0_0 : Ovi.Rows) (a0_1 : Ovi.Rows) (a1 : Int) : C (k + 1) 11 [AV.agg [AV.d (D.list 1 a0_0), AV.d (D.list 2 a0_1)], AV.d (D.int IntKind.i64 a1)] = bindR ((C k) 52 [AV.d (D.list 1 a0_0), AV.d (D.int IntKind.i64 a1)]) fun r5 => bindI (resI IntKind.i64 1 false 1 r5 0 0) fun n6 => ite' (decide (n6 < (0 : Int))) (some ([(false, [RL.d (D.int IntKind.i64 (-1 : Int))])])) (bindR ((C k) 53 [AV.d (D.list 2 a0_1), AV.d (D.int IntKind.i64 n6)]) fun r7 => bindI (resI IntKind.i64 1 false 1 r7 0 0) fun n8 => ite' (decide (n8 < (0 : Int))) (some ([(false, [RL.d (D.int IntKind.i64 (-1 : Int))])])) (some ([(false, [RL.d (D.int IntKind.i64 n8)])]))) := (show C (k + 1) 11 [AV.agg [AV.d (D.list 1 a0_0), AV.d (D.list 2 a0_1)], AV.d (D.int IntKind.i64 a1)] = evFnK P hs (C k) 11 k Try.f11 [AV.agg [AV.d (D.list 1 a0_0), AV.d (D.list 2 a0_1)], AV.d (D.int IntKind.i64 a1)] by kernel_rfl).trans (F11.eq k (C k) a0_0 a0_1 a1)
theorem F12.eq (k : Nat) (call : CallF) (a0_0 : Ovi.Rows) (a0_1 : Ovi.Rows) (a1_0 : Ovi.Rows) (a1_1 : Ovi.Rows) : evFnK P hs call (12 : FuncId) k Try.f12 [AV.agg [AV.d (D.list 1 a0_0), AV.d (D.list 2 a0_1)], AV.agg [AV.d (D.list 1 a1_0), AV.d (D.list 2 a1_1)]] = bindR (call 54 [AV.d (D.list 1 a0_0), AV.d (D.list 1 a1_0)]) fun r6 => bindI (resI IntKind.i64 1 false 1 r6 0 0) fun n7 => ite' (n7 == (0 : Int)) (bindR (call 55 [AV.d (D.list 2 a0_1), AV.d (D.list 2 a1_1)]) fun r8 => bindB (resB 1 false 1 r8 0 0) fun b9 => some ([(false, [RL.d (D.bool b9)])])) (some ([(false, [RL.d (D.bool false)])])) := by kernel_rfl
theorem F12.run (k : Nat) (a0_0 : Ovi.Rows) (a0_1 : Ovi.Rows) (a1_0 : Ovi.Rows) (a1_1 : Ovi.Rows) : C (k + 1) 12 [AV.agg [AV.d (D.list 1 a0_0), AV.d (D.list 2 a0_1)], AV.agg [AV.d (D.list 1 a1_0), AV.d (D.list 2 a1_1)]] = bindR ((C k) 54 [AV.d (D.list 1 a0_0), AV.d (D.list 1 a1_0)]) fun r6 => bindI (resI IntKind.i64 1 false 1 r6 0 0) fun n7 => ite' (n7 == (0 : Int)) (bindR ((C k) 55 [AV.d (D.list 2 a0_1), AV.d (D.list 2 a1_1)]) fun r8 => bindB (resB 1 false 1 r8 0 0) fun b9 => some ([(false, [RL.d (D.bool b9)])])) (some ([(false, [RL.d (D.bool false)])])) := (show C (k + 1) 12 [AV.agg [AV.d (D.list 1 a0_0), AV.d (D.list 2 a0_1)], AV.agg [AV.d (D.list 1 a1_0), AV.d (D.list 2 a1_1)]] = evFnK P hs (C k) 12 k Try.f12 [AV.agg [AV.d (D.list 1 a0_0), AV.d (D.list 2 a0_1)], AV.agg [AV.d (D.list 1 a1_0), AV.d (D.list 2 a1_1)]] by kernel_rfl).trans (F12.eq k (C k) a0_0 a0_1 a1_0 a1_1)
theorem F13.eq (k : Nat) (call : CallF) (a0_0 : Ovi.Rows) (a0_1 : Ovi.Rows) : evFnK P hs call (13 : FuncId) k Try.f13 [AV.agg [AV.d (D.list 1 a0_0), AV.d (D.list 2 a0_1)]] = bindR (call 29 [AV.d (D.list 1 a0_0)]) fun r4 => bindL (resO 3 1 1 false 1 r4 0 0) fun l5 => bindR (call 56 [AV.d (D.list 2 a0_1)]) fun r6 => bindL (resO 95 2 1 false 1 r6 0 0) fun l7 => some ([(true, [RL.row 3 1 l5, RL.row 95 2 l7])]) := by kernel_rfl
theorem F13.run (k : Nat) (a0_0 : Ovi.Rows) (a0_1 : Ovi.Rows) : C (k + 1) 13 [AV.agg [AV.d (D.list 1 a0_0), AV.d (D.list 2 a0_1)]] = bindR ((C k) 29 [AV.d (D.list 1 a0_0)]) fun r4 => bindL (resO 3 1 1 false 1 r4 0 0) fun l5 => bindR ((C k) 56 [AV.d (D.list 2 a0_1)]) fun r6 => bindL (resO 95 2 1 false 1 r6 0 0) fun l7 => some ([(true, [RL.row 3 1 l5, RL.row 95 2 l7])]) := (show C (k + 1) 13 [AV.agg [AV.d (D.list 1 a0_0), AV.d (D.list 2 a0_1)]] = evFnK P hs (C k) 13 k Try.f13 [AV.agg [AV.d (D.list 1 a0_0), AV.d (D.list 2 a0_1)]] by kernel_rfl).trans (F13.eq k (C k) a0_0 a0_1)
theorem F14.eq (k : Nat) (call : CallF) (a0_0 : Ovi.Rows) (a0_1 : Ovi.Rows) (a1_0 : Ovi.Rows) (a1_1 : Ovi.Rows) : evFnK P hs call (14 : FuncId) k Try.f14 [AV.agg [AV.d (D.list 1 a0_0), AV.d (D.list 2 a0_1)], AV.agg [AV.d (D.list 1 a1_0), AV.d (D.list 2 a1_1)]] = bindR (call 57 [AV.d (D.list 1 a0_0), AV.d (D.list 1 a1_0)]) fun r6 => bindB (resB 1 false 1 r6 0 0) fun b7 => ite' (b7) (bindR (call 58 [AV.d (D.list 2 a0_1), AV.d (D.list 2 a1_1), AV.d (D.fn 59 [])]) fun r8 => bindB (resB 1 false 1 r8 0 0) fun b9 => some ([(false, [RL.d (D.bool b9)])])) (some ([(false, [RL.d (D.bool false)])])) := by kernel_rfl
theorem F14.run (k : Nat) (a0_0 : Ovi.Rows) (a0_1 : Ovi.Rows) (a1_0 : Ovi.Rows) (a1_1 : Ovi.Rows) : C (k + 1) 14 [AV.agg [AV.d (D.list 1 a0_0), AV.d (D.list 2 a0_1)], AV.agg [AV.d (D.list 1 a1_0), AV.d (D.list 2 a1_1)]] = bindR ((C k) 57 [AV.d (D.list 1 a0_0), AV.d (D.list 1 a1_0)]) fun r6 => bindB (resB 1 false 1 r6 0 0) fun b7 => ite' (b7) (bindR ((C k) 58 [AV.d (D.list 2 a0_1), AV.d (D.list 2 a1_1), AV.d (D.fn 59 [])]) fun r8 => bindB (resB 1 false 1 r8 0 0) fun b9 => some ([(false, [RL.d (D.bool b9)])])) (some ([(false, [RL.d (D.bool false)])])) := (show C (k + 1) 14 [AV.agg [AV.d (D.list 1 a0_0), AV.d (D.list 2 a0_1)], AV.agg [AV.d (D.list 1 a1_0), AV.d (D.list 2 a1_1)]] = evFnK P hs (C k) 14 k Try.f14 [AV.agg [AV.d (D.list 1 a0_0), AV.d (D.list 2 a0_1)], AV.agg [AV.d (D.list 1 a1_0), AV.d (D.list 2 a1_1)]] by kernel_rfl).trans (F14.eq k (C k) a0_0 a0_1 a1_0 a1_1)
theorem F15.eq (k : Nat) (call : CallF) (a0_0 : Ovi.Rows) (a0_1 : Ovi.Rows) (a1_0 : Ovi.Rows) (a1_1 : Ovi.Rows) : evFnK P hs call (15 : FuncId) k Try.f15 [AV.agg [AV.d (D.list 1 a0_0), AV.d (D.list 2 a0_1)], AV.agg [AV.d (D.list 1 a1_0), AV.d (D.list 2 a1_1)]] = bindR (call 32 [AV.d (D.list 1 a0_0), AV.d (D.list 1 a1_0)]) fun r6 => bindB (resB 1 false 1 r6 0 0) fun b7 => ite' (!b7) (some ([(false, [RL.d (D.bool false)])])) (bindR (call 60 [AV.d (D.list 2 a0_1), AV.d (D.list 2 a1_1)]) fun r8 => bindB (resB 1 false 1 r8 0 0) fun b9 => ite' (!b9) (some ([(false, [RL.d (D.bool false)])])) (some ([(false, [RL.d (D.bool true)])]))) := by kernel_rfl
theorem F15.run (k : Nat) (a0_0 : Ovi.Rows) (a0_1 : Ovi.Rows) (a1_0 : Ovi.Rows) (a1_1 : Ovi.Rows) : C (k + 1) 15 [AV.agg [AV.d (D.list 1 a0_0), AV.d (D.list 2 a0_1)], AV.agg [AV.d (D.list 1 a1_0), AV.d (D.list 2 a1_1)]] = bindR ((C k) 32 [AV.d (D.list 1 a0_0), AV.d (D.list 1 a1_0)]) fun r6 => bindB (resB 1 false 1 r6 0 0) fun b7 => ite' (!b7) (some ([(false, [RL.d (D.bool false)])])) (bindR ((C k) 60 [AV.d (D.list 2 a0_1), AV.d (D.list 2 a1_1)]) fun r8 => bindB (resB 1 false 1 r8 0 0) fun b9 => ite' (!b9) (some ([(false, [RL.d (D.bool false)])])) (some ([(false, [RL.d (D.bool true)])]))) := (show C (k + 1) 15 [AV.agg [AV.d (D.list 1 a0_0), AV.d (D.list 2 a0_1)], AV.agg [AV.d (D.list 1 a1_0), AV.d (D.list 2 a1_1)]] = evFnK P hs (C k) 15 k Try.f15 [AV.agg [AV.d (D.list 1 a0_0), AV.d (D.list 2 a0_1)], AV.agg [AV.d (D.list 1 a1_0), AV.d (D.list 2 a1_1)]] by kernel_rfl).trans (F15.eq k (C k) a0_0 a0_1 a1_0 a1_1)
noncomputable def F29.L3 (k : Nat) (call : CallF)  (n : Nat) (v0 : Ovi.Rows) (v1 : Int) (v2 : Ovi.Rows) : Option Res := loopFn P hs call 29 k Try.f29 [1, 1, 0, 1, 0] [] n [(0, AV.d (D.list 1 v0)), (3, AV.own 100003 0), (4, AV.d (D.int IntKind.i64 v1))] [(100003, Blk.arr 3 1 0 v2)]
theorem F29.L3.zero (k : Nat) (call : CallF)  (v0 : Ovi.Rows) (v1 : Int) (v2 : Ovi.Rows) : F29.L3 k call  0 v0 v1 v2 = none := by kernel_rfl
theorem F29.L3.succ (k : Nat) (call : CallF)  (n : Nat) (v0 : Ovi.Rows) (v1 : Int) (v2 : Ovi.Rows) : F29.L3 k call  (n + 1) v0 v1 v2 = ite' (decide (v1 < (↑(List.length v0) : Int))) (ite' (inR v1 (List.length v0)) (bindI (cellI IntKind.i64 v0 v1.toNat 0) fun n7 => ite' (inR v1 (List.length v2)) (F29.L3 k call  (n) (v0) (IntKind.i64.wrap (v1 + (1 : Int))) (rowsSet v2 v1.toNat 0 [D.int IntKind.i64 n7])) (none)) (none)) (some ([(false, [RL.row 3 1 v2])])) := by kernel_rfl
theorem F29.eq (k : Nat) (call : CallF) (a0 : Ovi.Rows) : evFnK P hs call (29 : FuncId) k Try.f29 [AV.d (D.list 1 a0)] = ite' ((↑(List.length a0) : Int) == (↑(List.length a0) : Int)) (ite' (inM (↑(List.length a0) : Int)) (F29.L3 k call  (k) (a0) ((0 : Int)) (rowsOf (↑(List.length a0) : Int) [D.int IntKind.i64 (0 : Int)])) (none)) (none) := by kernel_rfl
theorem F29.run (k : Nat) (a0 : Ovi.Rows) : C (k + 1) 29 [AV.d (D.list 1 a0)] = ite' ((↑(List.length a0) : Int) == (↑(List.length a0) : Int)) (ite' (inM (↑(List.length a0) : Int)) (F29.L3 k (C k)  (k) (a0) ((0 : Int)) (rowsOf (↑(List.length a0) : Int) [D.int IntKind.i64 (0 : Int)])) (none)) (none) := (show C (k + 1) 29 [AV.d (D.list 1 a0)] = evFnK P hs (C k) 29 k Try.f29 [AV.d (D.list 1 a0)] by kernel_rfl).trans (F29.eq k (C k) a0)
noncomputable def F32.L4 (k : Nat) (call : CallF)  (n : Nat) (v0 : Ovi.Rows) (v1 : Ovi.Rows) (v2 : Int) : Option Res := loopFn P hs call 32 k Try.f32 [1, 1, 0, 1, 0] [] n [(0, AV.d (D.list 1 v0)), (1, AV.d (D.list 1 v1)), (5, AV.d (D.int IntKind.i64 v2))] []
theorem F32.L4.zero (k : Nat) (call : CallF)  (v0 : Ovi.Rows) (v1 : Ovi.Rows) (v2 : Int) : F32.L4 k call  0 v0 v1 v2 = none := by kernel_rfl
theorem F32.L4.succ (k : Nat) (call : CallF)  (n : Nat) (v0 : Ovi.Rows) (v1 : Ovi.Rows) (v2 : Int) : F32.L4 k call  (n + 1) v0 v1 v2 = ite' (decide (v2 < (↑(List.length v0) : Int))) (ite' (inR v2 (List.length v0)) (bindI (cellI IntKind.i64 v0 v2.toNat 0) fun n8 => ite' (inR v2 (List.length v1)) (bindI (cellI IntKind.i64 v1 v2.toNat 0) fun n9 => ite' (n8 != n9) (some ([(false, [RL.d (D.bool false)])])) (F32.L4 k call  (n) (v0) (v1) (IntKind.i64.wrap (v2 + (1 : Int))))) (none)) (none)) (some ([(false, [RL.d (D.bool true)])])) := by kernel_rfl
theorem F32.eq (k : Nat) (call : CallF) (a0 : Ovi.Rows) (a1 : Ovi.Rows) : evFnK P hs call (32 : FuncId) k Try.f32 [AV.d (D.list 1 a0), AV.d (D.list 1 a1)] = ite' ((↑(List.length a0) : Int) != (↑(List.length a1) : Int)) (some ([(false, [RL.d (D.bool false)])])) (F32.L4 k call  (k) (a0) (a1) ((0 : Int))) := by kernel_rfl
theorem F32.run (k : Nat) (a0 : Ovi.Rows) (a1 : Ovi.Rows) : C (k + 1) 32 [AV.d (D.list 1 a0), AV.d (D.list 1 a1)] = ite' ((↑(List.length a0) : Int) != (↑(List.length a1) : Int)) (some ([(false, [RL.d (D.bool false)])])) (F32.L4 k (C k)  (k) (a0) (a1) ((0 : Int))) := (show C (k + 1) 32 [AV.d (D.list 1 a0), AV.d (D.list 1 a1)] = evFnK P hs (C k) 32 k Try.f32 [AV.d (D.list 1 a0), AV.d (D.list 1 a1)] by kernel_rfl).trans (F32.eq k (C k) a0 a1)
theorem F52.eq (k : Nat) (call : CallF) (a0 : Ovi.Rows) (a1 : Int) : evFnK P hs call (52 : FuncId) k Try.f52 [AV.d (D.list 1 a0), AV.d (D.int IntKind.i64 a1)] = ite' (decide (IntKind.i64.wrap (a1 - (↑(List.length a0) : Int)) < (0 : Int))) (some ([(false, [RL.d (D.int IntKind.i64 (-1 : Int))])])) (some ([(false, [RL.d (D.int IntKind.i64 (IntKind.i64.wrap (a1 - (↑(List.length a0) : Int))))])])) := by kernel_rfl
theorem F52.run (k : Nat) (a0 : Ovi.Rows) (a1 : Int) : C (k + 1) 52 [AV.d (D.list 1 a0), AV.d (D.int IntKind.i64 a1)] = ite' (decide (IntKind.i64.wrap (a1 - (↑(List.length a0) : Int)) < (0 : Int))) (some ([(false, [RL.d (D.int IntKind.i64 (-1 : Int))])])) (some ([(false, [RL.d (D.int IntKind.i64 (IntKind.i64.wrap (a1 - (↑(List.length a0) : Int))))])])) := (show C (k + 1) 52 [AV.d (D.list 1 a0), AV.d (D.int IntKind.i64 a1)] = evFnK P hs (C k) 52 k Try.f52 [AV.d (D.list 1 a0), AV.d (D.int IntKind.i64 a1)] by kernel_rfl).trans (F52.eq k (C k) a0 a1)
noncomputable def F53.L5 (k : Nat) (call : CallF)  (n : Nat) (v0 : Ovi.Rows) (v1 : Int) (v2 : Int) : Option Res := loopFn P hs call 53 k Try.f53 [1, 1, 1, 0, 1, 0] [] n [(0, AV.d (D.list 2 v0)), (1, AV.d (D.int IntKind.i64 v1)), (5, AV.d (D.int IntKind.i64 v2))] []
theorem F53.L5.zero (k : Nat) (call : CallF)  (v0 : Ovi.Rows) (v1 : Int) (v2 : Int) : F53.L5 k call  0 v0 v1 v2 = none := by kernel_rfl
theorem F53.L5.succ (k : Nat) (call : CallF)  (n : Nat) (v0 : Ovi.Rows) (v1 : Int) (v2 : Int) : F53.L5 k call  (n + 1) v0 v1 v2 = ite' (decide (v2 < (↑(List.length v0) : Int))) (ite' (inR v2 (List.length v0)) (bindI (cellI IntKind.i64 v0 v2.toNat 0) fun n8 => bindL (cellL 1 v0 v2.toNat 1) fun l9 => bindR (call 106 [AV.agg [AV.d (D.int IntKind.i64 n8), AV.d (D.list 1 l9)], AV.d (D.int IntKind.i64 v1)]) fun r10 => bindI (resI IntKind.i64 1 false 1 r10 0 0) fun n11 => ite' (decide (n11 < (0 : Int))) (some ([(false, [RL.d (D.int IntKind.i64 (-1 : Int))])])) (F53.L5 k call  (n) (v0) (n11) (IntKind.i64.wrap (v2 + (1 : Int))))) (none)) (some ([(false, [RL.d (D.int IntKind.i64 v1)])])) := by kernel_rfl
theorem F53.eq (k : Nat) (call : CallF) (a0 : Ovi.Rows) (a1 : Int) : evFnK P hs call (53 : FuncId) k Try.f53 [AV.d (D.list 2 a0), AV.d (D.int IntKind.i64 a1)] = ite' (decide (IntKind.i64.wrap (a1 - (↑(List.length a0) : Int)) < (0 : Int))) (some ([(false, [RL.d (D.int IntKind.i64 (-1 : Int))])])) (F53.L5 k call  (k) (a0) (IntKind.i64.wrap (a1 - (↑(List.length a0) : Int))) ((0 : Int))) := by kernel_rfl
theorem F53.run (k : Nat) (a0 : Ovi.Rows) (a1 : Int) : C (k + 1) 53 [AV.d (D.list 2 a0), AV.d (D.int IntKind.i64 a1)] = ite' (decide (IntKind.i64.wrap (a1 - (↑(List.length a0) : Int)) < (0 : Int))) (some ([(false, [RL.d (D.int IntKind.i64 (-1 : Int))])])) (F53.L5 k (C k)  (k) (a0) (IntKind.i64.wrap (a1 - (↑(List.length a0) : Int))) ((0 : Int))) := (show C (k + 1) 53 [AV.d (D.list 2 a0), AV.d (D.int IntKind.i64 a1)] = evFnK P hs (C k) 53 k Try.f53 [AV.d (D.list 2 a0), AV.d (D.int IntKind.i64 a1)] by kernel_rfl).trans (F53.eq k (C k) a0 a1)
noncomputable def F54.L2 (k : Nat) (call : CallF)  (n : Nat) (v0 : Ovi.Rows) (v1 : Ovi.Rows) (v2 : Int) : Option Res := loopFn P hs call 54 k Try.f54 [1, 0, 1, 0] [] n [(0, AV.d (D.list 1 v0)), (1, AV.d (D.list 1 v1)), (5, AV.d (D.int IntKind.i64 v2))] []
theorem F54.L2.zero (k : Nat) (call : CallF)  (v0 : Ovi.Rows) (v1 : Ovi.Rows) (v2 : Int) : F54.L2 k call  0 v0 v1 v2 = none := by kernel_rfl
theorem F54.L2.succ (k : Nat) (call : CallF)  (n : Nat) (v0 : Ovi.Rows) (v1 : Ovi.Rows) (v2 : Int) : F54.L2 k call  (n + 1) v0 v1 v2 = ite' (decide (v2 < (↑(List.length v0) : Int))) (ite' (decide (v2 < (↑(List.length v1) : Int))) (ite' (inR v2 (List.length v0)) (bindI (cellI IntKind.i64 v0 v2.toNat 0) fun n8 => ite' (inR v2 (List.length v1)) (bindI (cellI IntKind.i64 v1 v2.toNat 0) fun n9 => ite' (decide (n8 < n9)) (some ([(false, [RL.d (D.int IntKind.i64 (-1 : Int))])])) (ite' (inR v2 (List.length v0)) (bindI (cellI IntKind.i64 v0 v2.toNat 0) fun n10 => ite' (inR v2 (List.length v1)) (bindI (cellI IntKind.i64 v1 v2.toNat 0) fun n11 => ite' (decide (n10 > n11)) (some ([(false, [RL.d (D.int IntKind.i64 (1 : Int))])])) (F54.L2 k call  (n) (v0) (v1) (IntKind.i64.wrap (v2 + (1 : Int))))) (none)) (none))) (none)) (none)) (ite' (decide ((↑(List.length v0) : Int) < (↑(List.length v1) : Int))) (some ([(false, [RL.d (D.int IntKind.i64 (-1 : Int))])])) (ite' (decide ((↑(List.length v0) : Int) > (↑(List.length v1) : Int))) (some ([(false, [RL.d (D.int IntKind.i64 (1 : Int))])])) (some ([(false, [RL.d (D.int IntKind.i64 (0 : Int))])]))))) (ite' (decide ((↑(List.length v0) : Int) < (↑(List.length v1) : Int))) (some ([(false, [RL.d (D.int IntKind.i64 (-1 : Int))])])) (ite' (decide ((↑(List.length v0) : Int) > (↑(List.length v1) : Int))) (some ([(false, [RL.d (D.int IntKind.i64 (1 : Int))])])) (some ([(false, [RL.d (D.int IntKind.i64 (0 : Int))])])))) := by kernel_rfl
theorem F54.eq (k : Nat) (call : CallF) (a0 : Ovi.Rows) (a1 : Ovi.Rows) : evFnK P hs call (54 : FuncId) k Try.f54 [AV.d (D.list 1 a0), AV.d (D.list 1 a1)] = F54.L2 k call  (k) (a0) (a1) ((0 : Int)) := by kernel_rfl
theorem F54.run (k : Nat) (a0 : Ovi.Rows) (a1 : Ovi.Rows) : C (k + 1) 54 [AV.d (D.list 1 a0), AV.d (D.list 1 a1)] = F54.L2 k (C k)  (k) (a0) (a1) ((0 : Int)) := (show C (k + 1) 54 [AV.d (D.list 1 a0), AV.d (D.list 1 a1)] = evFnK P hs (C k) 54 k Try.f54 [AV.d (D.list 1 a0), AV.d (D.list 1 a1)] by kernel_rfl).trans (F54.eq k (C k) a0 a1)
noncomputable def F55.L4 (k : Nat) (call : CallF)  (n : Nat) (v0 : Ovi.Rows) (v1 : Ovi.Rows) (v2 : Int) : Option Res := loopFn P hs call 55 k Try.f55 [1, 1, 0, 1, 0] [] n [(0, AV.d (D.list 2 v0)), (1, AV.d (D.list 2 v1)), (5, AV.d (D.int IntKind.i64 v2))] []
theorem F55.L4.zero (k : Nat) (call : CallF)  (v0 : Ovi.Rows) (v1 : Ovi.Rows) (v2 : Int) : F55.L4 k call  0 v0 v1 v2 = none := by kernel_rfl
theorem F55.L4.succ (k : Nat) (call : CallF)  (n : Nat) (v0 : Ovi.Rows) (v1 : Ovi.Rows) (v2 : Int) : F55.L4 k call  (n + 1) v0 v1 v2 = ite' (decide (v2 < (↑(List.length v0) : Int))) (ite' (inR v2 (List.length v0)) (bindI (cellI IntKind.i64 v0 v2.toNat 0) fun n8 => ite' (inR v2 (List.length v1)) (bindI (cellI IntKind.i64 v1 v2.toNat 0) fun n9 => ite' (n8 != n9) (some ([(false, [RL.d (D.bool false)])])) (ite' (inR v2 (List.length v0)) (bindL (cellL 1 v0 v2.toNat 1) fun l10 => ite' (inR v2 (List.length v1)) (bindL (cellL 1 v1 v2.toNat 1) fun l11 => bindR (call 54 [AV.d (D.list 1 l10), AV.d (D.list 1 l11)]) fun r12 => bindI (resI IntKind.i64 1 false 1 r12 0 0) fun n13 => ite' (n13 != (0 : Int)) (some ([(false, [RL.d (D.bool false)])])) (F55.L4 k call  (n) (v0) (v1) (IntKind.i64.wrap (v2 + (1 : Int))))) (none)) (none))) (none)) (none)) (some ([(false, [RL.d (D.bool true)])])) := by kernel_rfl
theorem F55.eq (k : Nat) (call : CallF) (a0 : Ovi.Rows) (a1 : Ovi.Rows) : evFnK P hs call (55 : FuncId) k Try.f55 [AV.d (D.list 2 a0), AV.d (D.list 2 a1)] = ite' ((↑(List.length a0) : Int) != (↑(List.length a1) : Int)) (some ([(false, [RL.d (D.bool false)])])) (F55.L4 k call  (k) (a0) (a1) ((0 : Int))) := by kernel_rfl
theorem F55.run (k : Nat) (a0 : Ovi.Rows) (a1 : Ovi.Rows) : C (k + 1) 55 [AV.d (D.list 2 a0), AV.d (D.list 2 a1)] = ite' ((↑(List.length a0) : Int) != (↑(List.length a1) : Int)) (some ([(false, [RL.d (D.bool false)])])) (F55.L4 k (C k)  (k) (a0) (a1) ((0 : Int))) := (show C (k + 1) 55 [AV.d (D.list 2 a0), AV.d (D.list 2 a1)] = evFnK P hs (C k) 55 k Try.f55 [AV.d (D.list 2 a0), AV.d (D.list 2 a1)] by kernel_rfl).trans (F55.eq k (C k) a0 a1)
noncomputable def F56.L3 (k : Nat) (call : CallF)  (n : Nat) (v0 : Ovi.Rows) (v1 : Int) (v2 : Ovi.Rows) : Option Res := loopFn P hs call 56 k Try.f56 [1, 1, 0, 1, 0] [] n [(0, AV.d (D.list 2 v0)), (3, AV.own 100003 0), (4, AV.d (D.int IntKind.i64 v1))] [(100003, Blk.arr 95 2 0 v2)]
theorem F56.L3.zero (k : Nat) (call : CallF)  (v0 : Ovi.Rows) (v1 : Int) (v2 : Ovi.Rows) : F56.L3 k call  0 v0 v1 v2 = none := by kernel_rfl
theorem F56.L3.succ (k : Nat) (call : CallF)  (n : Nat) (v0 : Ovi.Rows) (v1 : Int) (v2 : Ovi.Rows) : F56.L3 k call  (n + 1) v0 v1 v2 = ite' (decide (v1 < (↑(List.length v0) : Int))) (ite' (inR v1 (List.length v0)) (bindI (cellI IntKind.i64 v0 v1.toNat 0) fun n7 => bindL (cellL 1 v0 v1.toNat 1) fun l8 => bindR (call 107 [AV.agg [AV.d (D.int IntKind.i64 n7), AV.d (D.list 1 l8)]]) fun r9 => bindI (resI IntKind.i64 1 true 2 r9 0 0) fun n10 => bindL (resO 3 1 1 true 2 r9 0 1) fun l11 => ite' (inR v1 (List.length v2)) (F56.L3 k call  (n) (v0) (IntKind.i64.wrap (v1 + (1 : Int))) (rowsSet v2 v1.toNat 0 [D.int IntKind.i64 n10, D.list 1 l11])) (none)) (none)) (some ([(false, [RL.row 95 2 v2])])) := by kernel_rfl
theorem F56.eq (k : Nat) (call : CallF) (a0 : Ovi.Rows) : evFnK P hs call (56 : FuncId) k Try.f56 [AV.d (D.list 2 a0)] = ite' ((↑(List.length a0) : Int) == (↑(List.length a0) : Int)) (ite' (inM (↑(List.length a0) : Int)) (F56.L3 k call  (k) (a0) ((0 : Int)) (rowsOf (↑(List.length a0) : Int) [D.int IntKind.i64 (0 : Int), D.list 1 []])) (none)) (none) := by kernel_rfl
theorem F56.run (k : Nat) (a0 : Ovi.Rows) : C (k + 1) 56 [AV.d (D.list 2 a0)] = ite' ((↑(List.length a0) : Int) == (↑(List.length a0) : Int)) (ite' (inM (↑(List.length a0) : Int)) (F56.L3 k (C k)  (k) (a0) ((0 : Int)) (rowsOf (↑(List.length a0) : Int) [D.int IntKind.i64 (0 : Int), D.list 1 []])) (none)) (none) := (show C (k + 1) 56 [AV.d (D.list 2 a0)] = evFnK P hs (C k) 56 k Try.f56 [AV.d (D.list 2 a0)] by kernel_rfl).trans (F56.eq k (C k) a0)
noncomputable def F57.L4 (k : Nat) (call : CallF)  (n : Nat) (v0 : Ovi.Rows) (v1 : Ovi.Rows) (v2 : Int) (v3 : Int) : Option Res := loopFn P hs call 57 k Try.f57 [1, 1, 0, 1, 0] [] n [(0, AV.d (D.list 1 v0)), (1, AV.d (D.list 1 v1)), (12, AV.d (D.int IntKind.i64 v2)), (13, AV.d (D.int IntKind.i64 v3))] []
theorem F57.L4.zero (k : Nat) (call : CallF)  (v0 : Ovi.Rows) (v1 : Ovi.Rows) (v2 : Int) (v3 : Int) : F57.L4 k call  0 v0 v1 v2 v3 = none := by kernel_rfl
theorem F57.L4.succ (k : Nat) (call : CallF)  (n : Nat) (v0 : Ovi.Rows) (v1 : Ovi.Rows) (v2 : Int) (v3 : Int) : F57.L4 k call  (n + 1) v0 v1 v2 v3 = ite' (decide (v3 < v2)) (ite' (inR v3 (List.length v0)) (bindI (cellI IntKind.i64 v0 v3.toNat 0) fun n9 => ite' (inR v3 (List.length v1)) (bindI (cellI IntKind.i64 v1 v3.toNat 0) fun n10 => ite' (n9 != n10) (some ([(false, [RL.d (D.bool false)])])) (F57.L4 k call  (n) (v0) (v1) (v2) (IntKind.i64.wrap (v3 + (1 : Int))))) (none)) (none)) (some ([(false, [RL.d (D.bool true)])])) := by kernel_rfl
theorem F57.eq (k : Nat) (call : CallF) (a0 : Ovi.Rows) (a1 : Ovi.Rows) : evFnK P hs call (57 : FuncId) k Try.f57 [AV.d (D.list 1 a0), AV.d (D.list 1 a1)] = ite' ((↑(List.length a0) : Int) != (↑(List.length a1) : Int)) (some ([(false, [RL.d (D.bool false)])])) (F57.L4 k call  (k) (a0) (a1) ((↑(List.length a0) : Int)) ((0 : Int))) := by kernel_rfl
theorem F57.run (k : Nat) (a0 : Ovi.Rows) (a1 : Ovi.Rows) : C (k + 1) 57 [AV.d (D.list 1 a0), AV.d (D.list 1 a1)] = ite' ((↑(List.length a0) : Int) != (↑(List.length a1) : Int)) (some ([(false, [RL.d (D.bool false)])])) (F57.L4 k (C k)  (k) (a0) (a1) ((↑(List.length a0) : Int)) ((0 : Int))) := (show C (k + 1) 57 [AV.d (D.list 1 a0), AV.d (D.list 1 a1)] = evFnK P hs (C k) 57 k Try.f57 [AV.d (D.list 1 a0), AV.d (D.list 1 a1)] by kernel_rfl).trans (F57.eq k (C k) a0 a1)
noncomputable def F58.L4 (k : Nat) (call : CallF)  (n : Nat) (v0 : Ovi.Rows) (v1 : FuncId) (v2 : Ovi.Rows) (v3 : Ovi.Rows) (v4 : Int) (v5 : Int) : Option Res := loopFn P hs call 58 k Try.f58 [1, 1, 0, 1, 0] [] n [(1, AV.d (D.list 2 v0)), (2, AV.d (D.fn v1 v2)), (15, AV.d (D.list 2 v3)), (16, AV.d (D.int IntKind.i64 v4)), (17, AV.d (D.int IntKind.i64 v5))] []
theorem F58.L4.zero (k : Nat) (call : CallF)  (v0 : Ovi.Rows) (v1 : FuncId) (v2 : Ovi.Rows) (v3 : Ovi.Rows) (v4 : Int) (v5 : Int) : F58.L4 k call  0 v0 v1 v2 v3 v4 v5 = none := by kernel_rfl
theorem F58.L4.succ (k : Nat) (call : CallF)  (n : Nat) (v0 : Ovi.Rows) (v1 : FuncId) (v2 : Ovi.Rows) (v3 : Ovi.Rows) (v4 : Int) (v5 : Int) : F58.L4 k call  (n + 1) v0 v1 v2 v3 v4 v5 = ite' (decide (v5 < v4)) (ite' (inR v5 (List.length v3)) (bindI (cellI IntKind.i64 v3 v5.toNat 0) fun n13 => bindL (cellL 1 v3 v5.toNat 1) fun l14 => ite' (inR v5 (List.length v0)) (bindI (cellI IntKind.i64 v0 v5.toNat 0) fun n15 => bindL (cellL 1 v0 v5.toNat 1) fun l16 => bindR (call v1 (AV.agg [AV.d (D.int IntKind.i64 n13), AV.d (D.list 1 l14)] :: AV.agg [AV.d (D.int IntKind.i64 n15), AV.d (D.list 1 l16)] :: [].append (List.map (fun (c : List D) => AV.cap c 0) v2))) fun r17 => bindB (resB 1 false 1 r17 0 0) fun b18 => ite' (!b18) (some ([(false, [RL.d (D.bool false)])])) (F58.L4 k call  (n) (v0) (v1) (v2) (v3) (v4) (IntKind.i64.wrap (v5 + (1 : Int))))) (none)) (none)) (some ([(false, [RL.d (D.bool true)])])) := by kernel_rfl
theorem F58.eq (k : Nat) (call : CallF) (a0 : Ovi.Rows) (a1 : Ovi.Rows) (a2 : FuncId) (a2c : Ovi.Rows) : evFnK P hs call (58 : FuncId) k Try.f58 [AV.d (D.list 2 a0), AV.d (D.list 2 a1), AV.d (D.fn a2 a2c)] = ite' ((↑(List.length a0) : Int) != (↑(List.length a1) : Int)) (some ([(false, [RL.d (D.bool false)])])) (F58.L4 k call  (k) (a1) (a2) (a2c) (a0) ((↑(List.length a0) : Int)) ((0 : Int))) := by kernel_rfl
theorem F58.run (k : Nat) (a0 : Ovi.Rows) (a1 : Ovi.Rows) (a2 : FuncId) (a2c : Ovi.Rows) : C (k + 1) 58 [AV.d (D.list 2 a0), AV.d (D.list 2 a1), AV.d (D.fn a2 a2c)] = ite' ((↑(List.length a0) : Int) != (↑(List.length a1) : Int)) (some ([(false, [RL.d (D.bool false)])])) (F58.L4 k (C k)  (k) (a1) (a2) (a2c) (a0) ((↑(List.length a0) : Int)) ((0 : Int))) := (show C (k + 1) 58 [AV.d (D.list 2 a0), AV.d (D.list 2 a1), AV.d (D.fn a2 a2c)] = evFnK P hs (C k) 58 k Try.f58 [AV.d (D.list 2 a0), AV.d (D.list 2 a1), AV.d (D.fn a2 a2c)] by kernel_rfl).trans (F58.eq k (C k) a0 a1 a2 a2c)
theorem F59.eq (k : Nat) (call : CallF) (a0_0 : Int) (a0_1 : Ovi.Rows) (a1_0 : Int) (a1_1 : Ovi.Rows) : evFnK P hs call (59 : FuncId) k Try.f59 [AV.agg [AV.d (D.int IntKind.i64 a0_0), AV.d (D.list 1 a0_1)], AV.agg [AV.d (D.int IntKind.i64 a1_0), AV.d (D.list 1 a1_1)]] = ite' (a0_0 == a1_0) (bindR (call 57 [AV.d (D.list 1 a0_1), AV.d (D.list 1 a1_1)]) fun r6 => bindB (resB 1 false 1 r6 0 0) fun b7 => some ([(false, [RL.d (D.bool b7)])])) (some ([(false, [RL.d (D.bool false)])])) := by kernel_rfl
theorem F59.run (k : Nat) (a0_0 : Int) (a0_1 : Ovi.Rows) (a1_0 : Int) (a1_1 : Ovi.Rows) : C (k + 1) 59 [AV.agg [AV.d (D.int IntKind.i64 a0_0), AV.d (D.list 1 a0_1)], AV.agg [AV.d (D.int IntKind.i64 a1_0), AV.d (D.list 1 a1_1)]] = ite' (a0_0 == a1_0) (bindR ((C k) 57 [AV.d (D.list 1 a0_1), AV.d (D.list 1 a1_1)]) fun r6 => bindB (resB 1 false 1 r6 0 0) fun b7 => some ([(false, [RL.d (D.bool b7)])])) (some ([(false, [RL.d (D.bool false)])])) := (show C (k + 1) 59 [AV.agg [AV.d (D.int IntKind.i64 a0_0), AV.d (D.list 1 a0_1)], AV.agg [AV.d (D.int IntKind.i64 a1_0), AV.d (D.list 1 a1_1)]] = evFnK P hs (C k) 59 k Try.f59 [AV.agg [AV.d (D.int IntKind.i64 a0_0), AV.d (D.list 1 a0_1)], AV.agg [AV.d (D.int IntKind.i64 a1_0), AV.d (D.list 1 a1_1)]] by kernel_rfl).trans (F59.eq k (C k) a0_0 a0_1 a1_0 a1_1)
noncomputable def F60.L4 (k : Nat) (call : CallF)  (n : Nat) (v0 : Ovi.Rows) (v1 : Ovi.Rows) (v2 : Int) : Option Res := loopFn P hs call 60 k Try.f60 [1, 1, 0, 1, 0] [] n [(0, AV.d (D.list 2 v0)), (1, AV.d (D.list 2 v1)), (5, AV.d (D.int IntKind.i64 v2))] []
theorem F60.L4.zero (k : Nat) (call : CallF)  (v0 : Ovi.Rows) (v1 : Ovi.Rows) (v2 : Int) : F60.L4 k call  0 v0 v1 v2 = none := by kernel_rfl
theorem F60.L4.succ (k : Nat) (call : CallF)  (n : Nat) (v0 : Ovi.Rows) (v1 : Ovi.Rows) (v2 : Int) : F60.L4 k call  (n + 1) v0 v1 v2 = ite' (decide (v2 < (↑(List.length v0) : Int))) (ite' (inR v2 (List.length v0)) (bindI (cellI IntKind.i64 v0 v2.toNat 0) fun n8 => bindL (cellL 1 v0 v2.toNat 1) fun l9 => ite' (inR v2 (List.length v1)) (bindI (cellI IntKind.i64 v1 v2.toNat 0) fun n10 => bindL (cellL 1 v1 v2.toNat 1) fun l11 => bindR (call 108 [AV.agg [AV.d (D.int IntKind.i64 n8), AV.d (D.list 1 l9)], AV.agg [AV.d (D.int IntKind.i64 n10), AV.d (D.list 1 l11)]]) fun r12 => bindB (resB 1 false 1 r12 0 0) fun b13 => ite' (!b13) (some ([(false, [RL.d (D.bool false)])])) (F60.L4 k call  (n) (v0) (v1) (IntKind.i64.wrap (v2 + (1 : Int))))) (none)) (none)) (some ([(false, [RL.d (D.bool true)])])) := by kernel_rfl
theorem F60.eq (k : Nat) (call : CallF) (a0 : Ovi.Rows) (a1 : Ovi.Rows) : evFnK P hs call (60 : FuncId) k Try.f60 [AV.d (D.list 2 a0), AV.d (D.list 2 a1)] = ite' ((↑(List.length a0) : Int) != (↑(List.length a1) : Int)) (some ([(false, [RL.d (D.bool false)])])) (F60.L4 k call  (k) (a0) (a1) ((0 : Int))) := by kernel_rfl
theorem F60.run (k : Nat) (a0 : Ovi.Rows) (a1 : Ovi.Rows) : C (k + 1) 60 [AV.d (D.list 2 a0), AV.d (D.list 2 a1)] = ite' ((↑(List.length a0) : Int) != (↑(List.length a1) : Int)) (some ([(false, [RL.d (D.bool false)])])) (F60.L4 k (C k)  (k) (a0) (a1) ((0 : Int))) := (show C (k + 1) 60 [AV.d (D.list 2 a0), AV.d (D.list 2 a1)] = evFnK P hs (C k) 60 k Try.f60 [AV.d (D.list 2 a0), AV.d (D.list 2 a1)] by kernel_rfl).trans (F60.eq k (C k) a0 a1)
theorem F106.eq (k : Nat) (call : CallF) (a0_0 : Int) (a0_1 : Ovi.Rows) (a1 : Int) : evFnK P hs call (106 : FuncId) k Try.f106 [AV.agg [AV.d (D.int IntKind.i64 a0_0), AV.d (D.list 1 a0_1)], AV.d (D.int IntKind.i64 a1)] = bindR (call 52 [AV.d (D.list 1 a0_1), AV.d (D.int IntKind.i64 a1)]) fun r5 => bindI (resI IntKind.i64 1 false 1 r5 0 0) fun n6 => ite' (decide (n6 < (0 : Int))) (some ([(false, [RL.d (D.int IntKind.i64 (-1 : Int))])])) (some ([(false, [RL.d (D.int IntKind.i64 n6)])])) := by kernel_rfl
theorem F106.run (k : Nat) (a0_0 : Int) (a0_1 : Ovi.Rows) (a1 : Int) : C (k + 1) 106 [AV.agg [AV.d (D.int IntKind.i64 a0_0), AV.d (D.list 1 a0_1)], AV.d (D.int IntKind.i64 a1)] = bindR ((C k) 52 [AV.d (D.list 1 a0_1), AV.d (D.int IntKind.i64 a1)]) fun r5 => bindI (resI IntKind.i64 1 false 1 r5 0 0) fun n6 => ite' (decide (n6 < (0 : Int))) (some ([(false, [RL.d (D.int IntKind.i64 (-1 : Int))])])) (some ([(false, [RL.d (D.int IntKind.i64 n6)])])) := (show C (k + 1) 106 [AV.agg [AV.d (D.int IntKind.i64 a0_0), AV.d (D.list 1 a0_1)], AV.d (D.int IntKind.i64 a1)] = evFnK P hs (C k) 106 k Try.f106 [AV.agg [AV.d (D.int IntKind.i64 a0_0), AV.d (D.list 1 a0_1)], AV.d (D.int IntKind.i64 a1)] by kernel_rfl).trans (F106.eq k (C k) a0_0 a0_1 a1)
theorem F107.eq (k : Nat) (call : CallF) (a0_0 : Int) (a0_1 : Ovi.Rows) : evFnK P hs call (107 : FuncId) k Try.f107 [AV.agg [AV.d (D.int IntKind.i64 a0_0), AV.d (D.list 1 a0_1)]] = bindR (call 29 [AV.d (D.list 1 a0_1)]) fun r4 => bindL (resO 3 1 1 false 1 r4 0 0) fun l5 => some ([(true, [RL.d (D.int IntKind.i64 a0_0), RL.row 3 1 l5])]) := by kernel_rfl
theorem F107.run (k : Nat) (a0_0 : Int) (a0_1 : Ovi.Rows) : C (k + 1) 107 [AV.agg [AV.d (D.int IntKind.i64 a0_0), AV.d (D.list 1 a0_1)]] = bindR ((C k) 29 [AV.d (D.list 1 a0_1)]) fun r4 => bindL (resO 3 1 1 false 1 r4 0 0) fun l5 => some ([(true, [RL.d (D.int IntKind.i64 a0_0), RL.row 3 1 l5])]) := (show C (k + 1) 107 [AV.agg [AV.d (D.int IntKind.i64 a0_0), AV.d (D.list 1 a0_1)]] = evFnK P hs (C k) 107 k Try.f107 [AV.agg [AV.d (D.int IntKind.i64 a0_0), AV.d (D.list 1 a0_1)]] by kernel_rfl).trans (F107.eq k (C k) a0_0 a0_1)
theorem F108.eq (k : Nat) (call : CallF) (a0_0 : Int) (a0_1 : Ovi.Rows) (a1_0 : Int) (a1_1 : Ovi.Rows) : evFnK P hs call (108 : FuncId) k Try.f108 [AV.agg [AV.d (D.int IntKind.i64 a0_0), AV.d (D.list 1 a0_1)], AV.agg [AV.d (D.int IntKind.i64 a1_0), AV.d (D.list 1 a1_1)]] = ite' (a0_0 != a1_0) (some ([(false, [RL.d (D.bool false)])])) (bindR (call 32 [AV.d (D.list 1 a0_1), AV.d (D.list 1 a1_1)]) fun r6 => bindB (resB 1 false 1 r6 0 0) fun b7 => ite' (!b7) (some ([(false, [RL.d (D.bool false)])])) (some ([(false, [RL.d (D.bool true)])]))) := by kernel_rfl
theorem F108.run (k : Nat) (a0_0 : Int) (a0_1 : Ovi.Rows) (a1_0 : Int) (a1_1 : Ovi.Rows) : C (k + 1) 108 [AV.agg [AV.d (D.int IntKind.i64 a0_0), AV.d (D.list 1 a0_1)], AV.agg [AV.d (D.int IntKind.i64 a1_0), AV.d (D.list 1 a1_1)]] = ite' (a0_0 != a1_0) (some ([(false, [RL.d (D.bool false)])])) (bindR ((C k) 32 [AV.d (D.list 1 a0_1), AV.d (D.list 1 a1_1)]) fun r6 => bindB (resB 1 false 1 r6 0 0) fun b7 => ite' (!b7) (some ([(false, [RL.d (D.bool false)])])) (some ([(false, [RL.d (D.bool true)])]))) := (show C (k + 1) 108 [AV.agg [AV.d (D.int IntKind.i64 a0_0), AV.d (D.list 1 a0_1)], AV.agg [AV.d (D.int IntKind.i64 a1_0), AV.d (D.list 1 a1_1)]] = evFnK P hs (C k) 108 k Try.f108 [AV.agg [AV.d (D.int IntKind.i64 a0_0), AV.d (D.list 1 a0_1)], AV.agg [AV.d (D.int IntKind.i64 a1_0), AV.d (D.list 1 a1_1)]] by kernel_rfl).trans (F108.eq k (C k) a0_0 a0_1 a1_0 a1_1)

end Go.Proofs.Ytekcjghbfbfmpaa.Q1

/-! G1 -/
namespace Go.Proofs.Ytekcjghbfbfmpaa.Q1
open Go Ovi
/-- laws.toIntS -/
theorem l29 {k : Nat} (hk : 2000000 ≤ k) {a : Ovi.Rows} (ha : Fit (.list [.int .i64]) (.list 1 a)) (hs : szR a ≤ 1048576) : ∀ (m i n : Nat) (v : Ovi.Rows), Filled a v i 1 → i + m = a.length → m < n → F29.L3 k (C k) n a (i : Int) v = some [(false, [.row 3 1 a])] := by
  have hlen := ha.len
  intro m; induction m with
  | zero =>
    intro i n v hv hm hn
    obtain ⟨n, rfl⟩ : ∃ j, n = j + 1 := ⟨n - 1, by omega⟩
    obtain rfl : i = a.length := by omega
    rw [F29.L3.succ, ite'_f (lt_f (by omega)), hv.done]
  | succ m ih =>
    intro i n v hv hm hn
    obtain ⟨n, rfl⟩ : ∃ j, n = j + 1 := ⟨n - 1, by omega⟩
    obtain ⟨row, hr, hfr, hdr⟩ := ha.row (i := i) (by omega)
    obtain ⟨d0, rr0, rfl, hd0, hfr0⟩ := Fits.cons hfr
    obtain ⟨x0, rfl, wx0⟩ := hd0.int
    obtain rfl := Fits.nil hfr0
    have hst := hv.step hr rfl
    have hvl := hv.1
    have hszr := szR_at hr
    rw [F29.L3.succ, ite'_t (lt_t (by omega)), ite'_t (inR_t (by omega))]
    simp only [Int.toNat_natCast, cellI_at hr, cellB_at hr, cellS_at hr, cellL_at hr]
    simp only [List.getElem?_cons_zero, List.getElem?_cons_succ, Option.bind_some, asI_s, asB_s, asS_s, asL_s, bindI_s, bindB_s, bindS_s, bindL_s, bindR_s, resI_s, resB_s, resS_s, resO_s, bne_self_eq_false, beq_self_eq_true, Bool.not_true]
    rw [ite'_t (inR_t (by omega)), wrap_succ (m := a.length) (by omega) (by omega) hlen]
    rw [show ((i : Int) + 1) = ((i + 1 : Nat) : Int) by omega]
    exact ih (i + 1) n _ hst (by omega) (by omega)
theorem c29 {k : Nat} (hk : 2000001 ≤ k) {a : Ovi.Rows} (ha : Fit (.list [.int .i64]) (.list 1 a)) (hs : szD (.list 1 a) ≤ 1048576) : C k 29 [.d (.list 1 a)] = some [(false, [.row 3 1 a])] := by
  obtain ⟨k, rfl⟩ : ∃ j, k = j + 1 := ⟨k - 1, by omega⟩
  simp only [szD] at hs
  rw [F29.run, ite'_t (beq_t _), ite'_t (inM_t (by omega))]
  exact l29 (k := k) (by omega) ha (by omega) a.length 0 k _ (Filled.start a _) (by omega) (by omega)
/-- laws.eqIntS -/
theorem l32 {k : Nat} (hk : 2000000 ≤ k) {a : Ovi.Rows} (ha : Fit (.list [.int .i64]) (.list 1 a)) (hs : szR a ≤ 1048576) : ∀ (m i n : Nat), i + m = a.length → m < n → F32.L4 k (C k) n a a (i : Int) = some [(false, [.d (.bool true)])] := by
  have hlen := ha.len
  intro m; induction m with
  | zero =>
    intro i n hm hn
    obtain ⟨n, rfl⟩ : ∃ j, n = j + 1 := ⟨n - 1, by omega⟩
    rw [F32.L4.succ, ite'_f (lt_f (by omega))]
  | succ m ih =>
    intro i n hm hn
    obtain ⟨n, rfl⟩ : ∃ j, n = j + 1 := ⟨n - 1, by omega⟩
    obtain ⟨row, hr, hfr, hdr⟩ := ha.row (i := i) (by omega)
    obtain ⟨d0, rr0, rfl, hd0, hfr0⟩ := Fits.cons hfr
    obtain ⟨x0, rfl, wx0⟩ := hd0.int
    obtain rfl := Fits.nil hfr0
    have hszr := szR_at hr
    rw [F32.L4.succ, ite'_t (lt_t (by omega)), ite'_t (inR_t (by omega))]
    simp only [Int.toNat_natCast, cellI_at hr, cellB_at hr, cellS_at hr, cellL_at hr]
    simp only [List.getElem?_cons_zero, List.getElem?_cons_succ, Option.bind_some, asI_s, asB_s, asS_s, asL_s, bindI_s, bindB_s, bindS_s, bindL_s, bindR_s, resI_s, resB_s, resS_s, resO_s, bne_self_eq_false, beq_self_eq_true, Bool.not_true]
    rw [ite'_t (inR_t (by omega))]
    rw [ite'_f rfl, wrap_succ (m := a.length) (by omega) (by omega) hlen]
    rw [show ((i : Int) + 1) = ((i + 1 : Nat) : Int) by omega]
    exact ih (i + 1) n (by omega) (by omega)
theorem c32 {k : Nat} (hk : 2000001 ≤ k) {a : Ovi.Rows} (ha : Fit (.list [.int .i64]) (.list 1 a)) (hs : szD (.list 1 a) ≤ 1048576) : C k 32 [.d (.list 1 a), .d (.list 1 a)] = some [(false, [.d (.bool true)])] := by
  obtain ⟨k, rfl⟩ : ∃ j, k = j + 1 := ⟨k - 1, by omega⟩
  simp only [szD] at hs
  rw [F32.run, ite'_f (bne_f _)]
  exact l32 (k := k) (by omega) ha (by omega) a.length 0 k (by omega) (by omega)
/-- laws.szIntS -/
theorem c52 {k : Nat} (hk : 2000001 ≤ k) {a : Ovi.Rows} (ha : Fit (.list [.int .i64]) (.list 1 a)) {left : Int} (h0 : 0 ≤ left) (h1 : left ≤ 1048576) : C k 52 [.d (.list 1 a), .d (.int .i64 left)] = some [(false, [.d (.int .i64 (szT left (szD (.list 1 a))))])] := by
  obtain ⟨k, rfl⟩ : ∃ j, k = j + 1 := ⟨k - 1, by omega⟩
  have hlen := ha.len; unfold maxLen at hlen
  have hz : szR a = 0 := by
    clear hlen h0 h1
    induction a with
    | nil => rfl
    | cons r rs ih =>
      simp only [Fit, List.length_cons, List.mem_cons, forall_eq_or_imp] at ha
      obtain ⟨q1, q2, hfr, q4⟩ := ha
      obtain ⟨d0, rr0, rfl, hd0, hfr0⟩ := Fits.cons hfr
      obtain ⟨x0, rfl, wx0⟩ := hd0.int
      obtain rfl := Fits.nil hfr0
      simp only [szR, szC, szD]
      rw [ih (by simp only [Fit]; exact ⟨q1, by omega, q4⟩)]
  rw [F52.run, wrap_id (by omega) (by omega)]
  simp only [szD, hz, Nat.add_zero]
  rcases szT_cases left a.length with ⟨q, e⟩ | ⟨q, e⟩ <;> rw [e]
  · rw [ite'_f (neg_f (by omega))]
  · rw [ite'_t (by simp only [decide_eq_true_eq]; omega)]
/-- laws.szAtom -/
theorem c106 {k : Nat} (hk : 2000002 ≤ k) {a0 : Int} {a1 : Ovi.Rows} (ha1 : Fit (.list [.int .i64]) (.list 1 a1)) {left : Int} (h0 : 0 ≤ left) (h1 : left ≤ 1048576) : C k 106 [.agg [.d (.int .i64 a0), .d (.list 1 a1)], .d (.int .i64 left)] = some [(false, [.d (.int .i64 (szT left (szC [.int .i64 a0, .list 1 a1])))])] := by
  obtain ⟨k, rfl⟩ : ∃ j, k = j + 1 := ⟨k - 1, by omega⟩
  have eT : szC [.int .i64 a0, .list 1 a1] = (szD (.list 1 a1)) := by simp only [szC, szD]; omega
  rw [eT, F106.run]
  rw [c52 (k := k) (by omega)  ha1 (left := left) (by omega) (by omega)]
  simp only [List.getElem?_cons_zero, List.getElem?_cons_succ, Option.bind_some, asI_s, asB_s, asS_s, asL_s, bindI_s, bindB_s, bindS_s, bindL_s, bindR_s, resI_s, resB_s, resS_s, resO_s, bne_self_eq_false, beq_self_eq_true, Bool.not_true]
  rcases szT_cases (left) (szD (.list 1 a1)) with ⟨q0, e0⟩ | ⟨q0, e0⟩ <;> rw [e0]
  rotate_left
  · rw [ite'_t (by simp only [decide_eq_true_eq]; omega)] <;> first | rfl | rw [szT_neg (by omega)]
  rw [ite'_f (neg_f (by omega))] <;> first | rfl | (rw [szT_pos (by omega)]; congr 6; omega)
/-- laws.toAtom -/
theorem F107x0 {a0 : Int} {a1 : Ovi.Rows} : resI .i64 1 true 2 [(true, [.d (.int .i64 a0), .row 3 1 a1])] 0 0 = some a0 := rfl
theorem F107x1 {a0 : Int} {a1 : Ovi.Rows} : resO 3 1 1 true 2 [(true, [.d (.int .i64 a0), .row 3 1 a1])] 0 1 = some a1 := rfl
theorem c107 {k : Nat} (hk : 2000002 ≤ k) {a0 : Int} {a1 : Ovi.Rows} (ha1 : Fit (.list [.int .i64]) (.list 1 a1)) (s1 : szD (.list 1 a1) ≤ 1048576) : C k 107 [.agg [.d (.int .i64 a0), .d (.list 1 a1)]] = some [(true, [.d (.int .i64 a0), .row 3 1 a1])] := by
  obtain ⟨k, rfl⟩ : ∃ j, k = j + 1 := ⟨k - 1, by omega⟩
  rw [F107.run]
  rw [c29 (k := k) (by omega)  ha1 s1]
  simp only [List.getElem?_cons_zero, List.getElem?_cons_succ, Option.bind_some, asI_s, asB_s, asS_s, asL_s, bindI_s, bindB_s, bindS_s, bindL_s, bindR_s, resI_s, resB_s, resS_s, resO_s, bne_self_eq_false, beq_self_eq_true, Bool.not_true]
/-- laws.eqAtom -/
theorem c108 {k : Nat} (hk : 2000002 ≤ k) {a0 : Int} {a1 : Ovi.Rows} (ha1 : Fit (.list [.int .i64]) (.list 1 a1)) (s1 : szD (.list 1 a1) ≤ 1048576) : C k 108 [.agg [.d (.int .i64 a0), .d (.list 1 a1)], .agg [.d (.int .i64 a0), .d (.list 1 a1)]] = some [(false, [.d (.bool true)])] := by
  obtain ⟨k, rfl⟩ : ∃ j, k = j + 1 := ⟨k - 1, by omega⟩
  rw [F108.run]
  rw [c32 (k := k) (by omega)  ha1 s1]
  simp only [List.getElem?_cons_zero, List.getElem?_cons_succ, Option.bind_some, asI_s, asB_s, asS_s, asL_s, bindI_s, bindB_s, bindS_s, bindL_s, bindR_s, resI_s, resB_s, resS_s, resO_s, bne_self_eq_false, beq_self_eq_true, Bool.not_true]
  rfl
/-- laws.szAtomS -/
theorem l53 {k : Nat} (hk : 2000002 ≤ k) {a : Ovi.Rows} (ha : Fit (.list [.int .i64, .list [.int .i64]]) (.list 2 a)) : ∀ (m i n : Nat) (left : Int), 0 ≤ left → left ≤ 1048576 → i + m = a.length → m < n → F53.L5 k (C k) n a left (i : Int) = some [(false, [.d (.int .i64 (szT left (szR (a.drop i))))])] := by
  have hlen := ha.len
  intro m; induction m with
  | zero =>
    intro i n left h0 h1 hm hn
    obtain ⟨n, rfl⟩ : ∃ j, n = j + 1 := ⟨n - 1, by omega⟩
    rw [F53.L5.succ, ite'_f (lt_f (by omega)), List.drop_eq_nil_of_le (by omega)]
    simp only [szR, szT_pos (left := left) (s := 0) (by omega)]
    simp
  | succ m ih =>
    intro i n left h0 h1 hm hn
    obtain ⟨n, rfl⟩ : ∃ j, n = j + 1 := ⟨n - 1, by omega⟩
    obtain ⟨row, hr, hfr, hdr⟩ := ha.row (i := i) (by omega)
    obtain ⟨d0, rr0, rfl, hd0, hfr0⟩ := Fits.cons hfr
    obtain ⟨x0, rfl, wx0⟩ := hd0.int
    obtain ⟨d1, rr1, rfl, hd1, hfr1⟩ := Fits.cons hfr0
    obtain ⟨x1, rfl, hx1⟩ := hd1.list (n := 1) rfl
    obtain rfl := Fits.nil hfr1
    have eR : szR (a.drop i) = szC [.int .i64 x0, .list 1 x1] + szR (a.drop (i + 1)) := by rw [hdr]; rfl
    rw [F53.L5.succ, ite'_t (lt_t (by omega)), ite'_t (inR_t (by omega)), eR]
    simp only [Int.toNat_natCast, cellI_at hr, cellB_at hr, cellS_at hr, cellL_at hr]
    simp only [List.getElem?_cons_zero, List.getElem?_cons_succ, Option.bind_some, asI_s, asB_s, asS_s, asL_s, bindI_s, bindB_s, bindS_s, bindL_s, bindR_s, resI_s, resB_s, resS_s, resO_s, bne_self_eq_false, beq_self_eq_true, Bool.not_true]
    have cc := c106 (k := k) (by omega) (a0 := x0) hx1 h0 h1
    rw [cc]
    simp only [List.getElem?_cons_zero, List.getElem?_cons_succ, Option.bind_some, asI_s, asB_s, asS_s, asL_s, bindI_s, bindB_s, bindS_s, bindL_s, bindR_s, resI_s, resB_s, resS_s, resO_s, bne_self_eq_false, beq_self_eq_true, Bool.not_true]
    rcases szT_cases left (szC [.int .i64 x0, .list 1 x1]) with ⟨q, e⟩ | ⟨q, e⟩ <;> rw [e]
    · rw [ite'_f (neg_f (by omega)), wrap_succ (m := a.length) (by omega) (by omega) hlen]
      have := ih (i + 1) n (left - ((szC [.int .i64 x0, .list 1 x1] : Nat) : Int)) (by omega) (by omega) (by omega) (by omega)
      rw [show ((i : Int) + 1) = ((i + 1 : Nat) : Int) by omega, this]
      rcases szT_cases (left - ((szC [.int .i64 x0, .list 1 x1] : Nat) : Int)) (szR (a.drop (i + 1))) with ⟨q2, e2⟩ | ⟨q2, e2⟩ <;> rw [e2]
      · rw [szT_pos (by omega)]; congr 6; omega
      · rw [szT_neg (by omega)]
    · rw [ite'_t neg_t, szT_neg (by omega)]
theorem c53 {k : Nat} (hk : 2000003 ≤ k) {a : Ovi.Rows} (ha : Fit (.list [.int .i64, .list [.int .i64]]) (.list 2 a)) {left : Int} (h0 : 0 ≤ left) (h1 : left ≤ 1048576) : C k 53 [.d (.list 2 a), .d (.int .i64 left)] = some [(false, [.d (.int .i64 (szT left (szD (.list 2 a))))])] := by
  obtain ⟨k, rfl⟩ : ∃ j, k = j + 1 := ⟨k - 1, by omega⟩
  have hlen := ha.len; unfold maxLen at hlen
  rw [F53.run, wrap_id (by omega) (by omega)]
  have eD : szD (.list 2 a) = a.length + szR a := by simp only [szD]
  rw [eD]
  rcases szT_cases left a.length with ⟨q, e⟩ | ⟨q, e⟩
  · rw [ite'_f (neg_f (by omega))]
    have := l53 (k := k) (by omega) ha a.length 0 k (left - (a.length : Int)) (by omega) (by omega) (by omega) (by omega)
    rw [List.drop_zero] at this
    rw [show ((0 : Int)) = ((0 : Nat) : Int) by rfl, this]
    rcases szT_cases (left - (a.length : Int)) (szR a) with ⟨q2, e2⟩ | ⟨q2, e2⟩ <;> rw [e2]
    · rw [szT_pos (by omega)]; congr 6; omega
    · rw [szT_neg (by omega)]
  · rw [ite'_t (by simp only [decide_eq_true_eq]; omega), szT_neg (by omega)]
/-- laws.toAtomS -/
theorem l56 {k : Nat} (hk : 2000002 ≤ k) {a : Ovi.Rows} (ha : Fit (.list [.int .i64, .list [.int .i64]]) (.list 2 a)) (hs : szR a ≤ 1048576) : ∀ (m i n : Nat) (v : Ovi.Rows), Filled a v i 2 → i + m = a.length → m < n → F56.L3 k (C k) n a (i : Int) v = some [(false, [.row 95 2 a])] := by
  have hlen := ha.len
  intro m; induction m with
  | zero =>
    intro i n v hv hm hn
    obtain ⟨n, rfl⟩ : ∃ j, n = j + 1 := ⟨n - 1, by omega⟩
    obtain rfl : i = a.length := by omega
    rw [F56.L3.succ, ite'_f (lt_f (by omega)), hv.done]
  | succ m ih =>
    intro i n v hv hm hn
    obtain ⟨n, rfl⟩ : ∃ j, n = j + 1 := ⟨n - 1, by omega⟩
    obtain ⟨row, hr, hfr, hdr⟩ := ha.row (i := i) (by omega)
    obtain ⟨d0, rr0, rfl, hd0, hfr0⟩ := Fits.cons hfr
    obtain ⟨x0, rfl, wx0⟩ := hd0.int
    obtain ⟨d1, rr1, rfl, hd1, hfr1⟩ := Fits.cons hfr0
    obtain ⟨x1, rfl, hx1⟩ := hd1.list (n := 1) rfl
    obtain rfl := Fits.nil hfr1
    have hst := hv.step hr rfl
    have hvl := hv.1
    have hszr := szR_at hr
    rw [F56.L3.succ, ite'_t (lt_t (by omega)), ite'_t (inR_t (by omega))]
    simp only [Int.toNat_natCast, cellI_at hr, cellB_at hr, cellS_at hr, cellL_at hr]
    simp only [List.getElem?_cons_zero, List.getElem?_cons_succ, Option.bind_some, asI_s, asB_s, asS_s, asL_s, bindI_s, bindB_s, bindS_s, bindL_s, bindR_s, resI_s, resB_s, resS_s, resO_s, bne_self_eq_false, beq_self_eq_true, Bool.not_true]
    rw [c107 (k := k) (by omega) (a0 := x0) hx1 (by simp only [szC, szD] at hszr ⊢; omega)]
    simp only [List.getElem?_cons_zero, List.getElem?_cons_succ, Option.bind_some, asI_s, asB_s, asS_s, asL_s, bindI_s, bindB_s, bindS_s, bindL_s, bindR_s, resI_s, resB_s, resS_s, resO_s, bne_self_eq_false, beq_self_eq_true, Bool.not_true]
    simp only [F107x0, F107x1]
    simp only [List.getElem?_cons_zero, List.getElem?_cons_succ, Option.bind_some, asI_s, asB_s, asS_s, asL_s, bindI_s, bindB_s, bindS_s, bindL_s, bindR_s, resI_s, resB_s, resS_s, resO_s, bne_self_eq_false, beq_self_eq_true, Bool.not_true]
    rw [ite'_t (inR_t (by omega)), wrap_succ (m := a.length) (by omega) (by omega) hlen]
    rw [show ((i : Int) + 1) = ((i + 1 : Nat) : Int) by omega]
    exact ih (i + 1) n _ hst (by omega) (by omega)
theorem c56 {k : Nat} (hk : 2000003 ≤ k) {a : Ovi.Rows} (ha : Fit (.list [.int .i64, .list [.int .i64]]) (.list 2 a)) (hs : szD (.list 2 a) ≤ 1048576) : C k 56 [.d (.list 2 a)] = some [(false, [.row 95 2 a])] := by
  obtain ⟨k, rfl⟩ : ∃ j, k = j + 1 := ⟨k - 1, by omega⟩
  simp only [szD] at hs
  rw [F56.run, ite'_t (beq_t _), ite'_t (inM_t (by omega))]
  exact l56 (k := k) (by omega) ha (by omega) a.length 0 k _ (Filled.start a _) (by omega) (by omega)
/-- laws.eqAtomS -/
theorem l60 {k : Nat} (hk : 2000002 ≤ k) {a : Ovi.Rows} (ha : Fit (.list [.int .i64, .list [.int .i64]]) (.list 2 a)) (hs : szR a ≤ 1048576) : ∀ (m i n : Nat), i + m = a.length → m < n → F60.L4 k (C k) n a a (i : Int) = some [(false, [.d (.bool true)])] := by
  have hlen := ha.len
  intro m; induction m with
  | zero =>
    intro i n hm hn
    obtain ⟨n, rfl⟩ : ∃ j, n = j + 1 := ⟨n - 1, by omega⟩
    rw [F60.L4.succ, ite'_f (lt_f (by omega))]
  | succ m ih =>
    intro i n hm hn
    obtain ⟨n, rfl⟩ : ∃ j, n = j + 1 := ⟨n - 1, by omega⟩
    obtain ⟨row, hr, hfr, hdr⟩ := ha.row (i := i) (by omega)
    obtain ⟨d0, rr0, rfl, hd0, hfr0⟩ := Fits.cons hfr
    obtain ⟨x0, rfl, wx0⟩ := hd0.int
    obtain ⟨d1, rr1, rfl, hd1, hfr1⟩ := Fits.cons hfr0
    obtain ⟨x1, rfl, hx1⟩ := hd1.list (n := 1) rfl
    obtain rfl := Fits.nil hfr1
    have hszr := szR_at hr
    rw [F60.L4.succ, ite'_t (lt_t (by omega)), ite'_t (inR_t (by omega))]
    simp only [Int.toNat_natCast, cellI_at hr, cellB_at hr, cellS_at hr, cellL_at hr]
    simp only [List.getElem?_cons_zero, List.getElem?_cons_succ, Option.bind_some, asI_s, asB_s, asS_s, asL_s, bindI_s, bindB_s, bindS_s, bindL_s, bindR_s, resI_s, resB_s, resS_s, resO_s, bne_self_eq_false, beq_self_eq_true, Bool.not_true]
    rw [ite'_t (inR_t (by omega))]
    rw [c108 (k := k) (by omega) (a0 := x0) hx1 (by simp only [szC, szD] at hszr ⊢; omega)]
    simp only [List.getElem?_cons_zero, List.getElem?_cons_succ, Option.bind_some, asI_s, asB_s, asS_s, asL_s, bindI_s, bindB_s, bindS_s, bindL_s, bindR_s, resI_s, resB_s, resS_s, resO_s, bne_self_eq_false, beq_self_eq_true, Bool.not_true]
    rw [ite'_f rfl, wrap_succ (m := a.length) (by omega) (by omega) hlen]
    rw [show ((i : Int) + 1) = ((i + 1 : Nat) : Int) by omega]
    exact ih (i + 1) n (by omega) (by omega)
theorem c60 {k : Nat} (hk : 2000003 ≤ k) {a : Ovi.Rows} (ha : Fit (.list [.int .i64, .list [.int .i64]]) (.list 2 a)) (hs : szD (.list 2 a) ≤ 1048576) : C k 60 [.d (.list 2 a), .d (.list 2 a)] = some [(false, [.d (.bool true)])] := by
  obtain ⟨k, rfl⟩ : ∃ j, k = j + 1 := ⟨k - 1, by omega⟩
  simp only [szD] at hs
  rw [F60.run, ite'_f (bne_f _)]
  exact l60 (k := k) (by omega) ha (by omega) a.length 0 k (by omega) (by omega)
/-- laws.szQuery -/
theorem c11 {k : Nat} (hk : 2000004 ≤ k) {a0 : Ovi.Rows} (ha0 : Fit (.list [.int .i64]) (.list 1 a0)) {a1 : Ovi.Rows} (ha1 : Fit (.list [.int .i64, .list [.int .i64]]) (.list 2 a1)) {left : Int} (h0 : 0 ≤ left) (h1 : left ≤ 1048576) : C k 11 [.agg [.d (.list 1 a0), .d (.list 2 a1)], .d (.int .i64 left)] = some [(false, [.d (.int .i64 (szT left (szC [.list 1 a0, .list 2 a1])))])] := by
  obtain ⟨k, rfl⟩ : ∃ j, k = j + 1 := ⟨k - 1, by omega⟩
  have eT : szC [.list 1 a0, .list 2 a1] = (szD (.list 1 a0)) + (szD (.list 2 a1)) := by simp only [szC, szD]; omega
  rw [eT, F11.run]
  rw [c52 (k := k) (by omega)  ha0 (left := left) (by omega) (by omega)]
  simp only [List.getElem?_cons_zero, List.getElem?_cons_succ, Option.bind_some, asI_s, asB_s, asS_s, asL_s, bindI_s, bindB_s, bindS_s, bindL_s, bindR_s, resI_s, resB_s, resS_s, resO_s, bne_self_eq_false, beq_self_eq_true, Bool.not_true]
  rcases szT_cases (left) (szD (.list 1 a0)) with ⟨q0, e0⟩ | ⟨q0, e0⟩ <;> rw [e0]
  rotate_left
  · rw [ite'_t (by simp only [decide_eq_true_eq]; omega)] <;> first | rfl | rw [szT_neg (by omega)]
  rw [ite'_f (neg_f (by omega))]
  rw [c53 (k := k) (by omega)  ha1 (left := left - ((szD (.list 1 a0) : Nat) : Int)) (by omega) (by omega)]
  simp only [List.getElem?_cons_zero, List.getElem?_cons_succ, Option.bind_some, asI_s, asB_s, asS_s, asL_s, bindI_s, bindB_s, bindS_s, bindL_s, bindR_s, resI_s, resB_s, resS_s, resO_s, bne_self_eq_false, beq_self_eq_true, Bool.not_true]
  rcases szT_cases (left - ((szD (.list 1 a0) : Nat) : Int)) (szD (.list 2 a1)) with ⟨q1, e1⟩ | ⟨q1, e1⟩ <;> rw [e1]
  rotate_left
  · rw [ite'_t (by simp only [decide_eq_true_eq]; omega)] <;> first | rfl | rw [szT_neg (by omega)]
  rw [ite'_f (neg_f (by omega))] <;> first | rfl | (rw [szT_pos (by omega)]; congr 6; omega)
/-- laws.toQuery -/
theorem F13x0 {a0 : Ovi.Rows} {a1 : Ovi.Rows} : resO 3 1 1 true 2 [(true, [.row 3 1 a0, .row 95 2 a1])] 0 0 = some a0 := rfl
theorem F13x1 {a0 : Ovi.Rows} {a1 : Ovi.Rows} : resO 95 2 1 true 2 [(true, [.row 3 1 a0, .row 95 2 a1])] 0 1 = some a1 := rfl
theorem c13 {k : Nat} (hk : 2000004 ≤ k) {a0 : Ovi.Rows} (ha0 : Fit (.list [.int .i64]) (.list 1 a0)) {a1 : Ovi.Rows} (ha1 : Fit (.list [.int .i64, .list [.int .i64]]) (.list 2 a1)) (s0 : szD (.list 1 a0) ≤ 1048576) (s1 : szD (.list 2 a1) ≤ 1048576) : C k 13 [.agg [.d (.list 1 a0), .d (.list 2 a1)]] = some [(true, [.row 3 1 a0, .row 95 2 a1])] := by
  obtain ⟨k, rfl⟩ : ∃ j, k = j + 1 := ⟨k - 1, by omega⟩
  rw [F13.run]
  rw [c29 (k := k) (by omega)  ha0 s0]
  simp only [List.getElem?_cons_zero, List.getElem?_cons_succ, Option.bind_some, asI_s, asB_s, asS_s, asL_s, bindI_s, bindB_s, bindS_s, bindL_s, bindR_s, resI_s, resB_s, resS_s, resO_s, bne_self_eq_false, beq_self_eq_true, Bool.not_true]
  rw [c56 (k := k) (by omega)  ha1 s1]
  simp only [List.getElem?_cons_zero, List.getElem?_cons_succ, Option.bind_some, asI_s, asB_s, asS_s, asL_s, bindI_s, bindB_s, bindS_s, bindL_s, bindR_s, resI_s, resB_s, resS_s, resO_s, bne_self_eq_false, beq_self_eq_true, Bool.not_true]
/-- laws.eqQuery -/
theorem c15 {k : Nat} (hk : 2000004 ≤ k) {a0 : Ovi.Rows} (ha0 : Fit (.list [.int .i64]) (.list 1 a0)) {a1 : Ovi.Rows} (ha1 : Fit (.list [.int .i64, .list [.int .i64]]) (.list 2 a1)) (s0 : szD (.list 1 a0) ≤ 1048576) (s1 : szD (.list 2 a1) ≤ 1048576) : C k 15 [.agg [.d (.list 1 a0), .d (.list 2 a1)], .agg [.d (.list 1 a0), .d (.list 2 a1)]] = some [(false, [.d (.bool true)])] := by
  obtain ⟨k, rfl⟩ : ∃ j, k = j + 1 := ⟨k - 1, by omega⟩
  rw [F15.run]
  rw [c32 (k := k) (by omega)  ha0 s0]
  rw [c60 (k := k) (by omega)  ha1 s1]
  simp only [List.getElem?_cons_zero, List.getElem?_cons_succ, Option.bind_some, asI_s, asB_s, asS_s, asL_s, bindI_s, bindB_s, bindS_s, bindL_s, bindR_s, resI_s, resB_s, resS_s, resO_s, bne_self_eq_false, beq_self_eq_true, Bool.not_true]
  rfl
end Go.Proofs.Ytekcjghbfbfmpaa.Q1

/-! H1 -/
namespace Ovi
/-- are they the same data? -/
noncomputable def eqv (a b : Rows) : Bool := @decide (a = b) (Classical.propDecidable _)
theorem eqv_t {a b : Rows} (h : a = b) : eqv a b = true := by simp [eqv, h]
theorem eqv_f {a b : Rows} (h : ¬ a = b) : eqv a b = false := by simp [eqv, h]
theorem eqv_iff {a b : Rows} : eqv a b = true ↔ a = b := by simp [eqv]
theorem take_step {a b : Rows} {i : Nat} {r : List D} (h : a.take i = b.take i) (ha : a[i]? = some r) (hb : b[i]? = some r) : a.take (i + 1) = b.take (i + 1) := by
  rw [List.take_add_one, List.take_add_one, h, ha, hb]
theorem take_all {a b : Rows} (h : a.take a.length = b.take a.length) (hl : a.length = b.length) : a = b := by
  rwa [List.take_of_length_le (Nat.le_refl _), List.take_of_length_le (by omega)] at h
theorem ne_at {a b : Rows} {i : Nat} {r s : List D} (ha : a[i]? = some r) (hb : b[i]? = some s) (h : r ≠ s) : ¬ a = b := fun e => h (by rw [e, hb] at ha; injection ha with ha; exact ha.symm)
end Ovi
namespace Go.Proofs.Ytekcjghbfbfmpaa.Q1
open Go Ovi
theorem l57 {k : Nat} {a b : Ovi.Rows} (ha : Fit (.list [.int .i64]) (.list 1 a)) (hb : Fit (.list [.int .i64]) (.list 1 b)) (hl : a.length = b.length) : ∀ (m i n : Nat), a.take i = b.take i → i + m = a.length → m < n →
    F57.L4 k (C k) n a b (a.length : Int) (i : Int) = some [(false, [.d (.bool (eqv a b))])] := by
  have hlen := ha.len
  intro m; induction m with
  | zero =>
    intro i n ht hm hn
    obtain ⟨n, rfl⟩ : ∃ j, n = j + 1 := ⟨n - 1, by omega⟩
    obtain rfl : i = a.length := by omega
    rw [F57.L4.succ, ite'_f (lt_f (by omega)), eqv_t (take_all ht hl)]
  | succ m ih =>
    intro i n ht hm hn
    obtain ⟨n, rfl⟩ : ∃ j, n = j + 1 := ⟨n - 1, by omega⟩
    obtain ⟨row, hr, hfr, hdr⟩ := ha.row (i := i) (by omega)
    obtain ⟨row', hr', hfr', hdr'⟩ := hb.row (i := i) (by omega)
    obtain ⟨d0, rr0, rfl, hd0, hfr0⟩ := Fits.cons hfr
    obtain ⟨x0, rfl, wx0⟩ := hd0.int
    obtain rfl := Fits.nil hfr0
    obtain ⟨e0, ss0, rfl, he0, hfs0⟩ := Fits.cons hfr'
    obtain ⟨y0, rfl, wy0⟩ := he0.int
    obtain rfl := Fits.nil hfs0
    rw [F57.L4.succ, ite'_t (lt_t (by omega)), ite'_t (inR_t (by omega))]
    simp only [Int.toNat_natCast, cellI_at hr, cellI_at hr']
    simp only [List.getElem?_cons_zero, Option.bind_some, asI_s, bindI_s]
    rw [ite'_t (inR_t (by omega))]
    by_cases hxy : x0 = y0
    · subst hxy
      rw [ite'_f (by simp), wrap_succ (m := a.length) (by omega) (by omega) hlen, show ((i : Int) + 1) = ((i + 1 : Nat) : Int) by omega]
      exact ih (i + 1) n (take_step ht hr hr') (by omega) (by omega)
    · rw [ite'_t (by simpa using hxy), eqv_f (ne_at hr hr' (by simpa using hxy))]
/-- slices.Equal on integers -/
theorem c57 {k : Nat} {a b : Ovi.Rows} (ha : Fit (.list [.int .i64]) (.list 1 a)) (hb : Fit (.list [.int .i64]) (.list 1 b)) (hk : a.length < k) : C (k + 1) 57 [.d (.list 1 a), .d (.list 1 b)] = some [(false, [.d (.bool (eqv a b))])] := by
  rw [F57.run]
  by_cases hl : a.length = b.length
  · rw [ite'_f (by simp [hl])]
    exact l57 ha hb hl a.length 0 k (by simp) (by omega) (by omega)
  · rw [ite'_t (by simp; omega), eqv_f (fun e => hl (by rw [e]))]
theorem l54 {k : Nat} {a b : Ovi.Rows} (ha : Fit (.list [.int .i64]) (.list 1 a)) (hb : Fit (.list [.int .i64]) (.list 1 b)) : ∀ (m i n : Nat), a.take i = b.take i → i ≤ b.length → i + m = a.length → m < n →
    ∃ r, F54.L2 k (C k) n a b (i : Int) = some [(false, [.d (.int .i64 r)])] ∧ (r = 0 ↔ a = b) := by
  have hlen := ha.len
  have fin : ∀ (i n : Nat), a.take i = b.take i → i ≤ a.length → i ≤ b.length → (¬ i < a.length ∨ ¬ i < b.length) → ∃ r, F54.L2 k (C k) (n + 1) a b (i : Int) = some [(false, [.d (.int .i64 r)])] ∧ (r = 0 ↔ a = b) := by
    intro i n ht h1 h2 h3
    have e : F54.L2 k (C k) (n + 1) a b (i : Int) = ite' (decide ((a.length : Int) < (b.length : Int))) (some [(false, [.d (.int .i64 (-1))])]) (ite' (decide ((a.length : Int) > (b.length : Int))) (some [(false, [.d (.int .i64 1)])]) (some [(false, [.d (.int .i64 0)])])) := by
      rw [F54.L2.succ]
      by_cases hi : i < a.length
      · rw [ite'_t (lt_t hi), ite'_f (lt_f (by omega))]
      · rw [ite'_f (lt_f hi)]
    rw [e]
    rcases Nat.lt_trichotomy a.length b.length with h | h | h
    · rw [ite'_t (by simp; omega)]
      exact ⟨-1, rfl, ⟨fun h => absurd h (by decide), fun e => by rw [e] at h; omega⟩⟩
    · rw [ite'_f (by simp; omega), ite'_f (by simp; omega)]
      obtain rfl : i = a.length := by omega
      exact ⟨0, rfl, ⟨fun _ => take_all ht h, fun _ => rfl⟩⟩
    · rw [ite'_f (by simp; omega), ite'_t (by simp; omega)]
      exact ⟨1, rfl, ⟨fun h => absurd h (by decide), fun e => by rw [e] at h; omega⟩⟩
  intro m; induction m with
  | zero =>
    intro i n ht hb' hm hn
    obtain ⟨n, rfl⟩ : ∃ j, n = j + 1 := ⟨n - 1, by omega⟩
    exact fin i n ht (by omega) hb' (by omega)
  | succ m ih =>
    intro i n ht hb' hm hn
    obtain ⟨n, rfl⟩ : ∃ j, n = j + 1 := ⟨n - 1, by omega⟩
    by_cases hib : i < b.length
    · obtain ⟨row, hr, hfr, hdr⟩ := ha.row (i := i) (by omega)
      obtain ⟨row', hr', hfr', hdr'⟩ := hb.row (i := i) (by omega)
      obtain ⟨d0, rr0, rfl, hd0, hfr0⟩ := Fits.cons hfr
      obtain ⟨x0, rfl, wx0⟩ := hd0.int
      obtain rfl := Fits.nil hfr0
      obtain ⟨e0, ss0, rfl, he0, hfs0⟩ := Fits.cons hfr'
      obtain ⟨y0, rfl, wy0⟩ := he0.int
      obtain rfl := Fits.nil hfs0
      rw [F54.L2.succ, ite'_t (lt_t (by omega)), ite'_t (lt_t (by omega)), ite'_t (inR_t (by omega))]
      simp only [Int.toNat_natCast, cellI_at hr, cellI_at hr']
      simp only [List.getElem?_cons_zero, Option.bind_some, asI_s, bindI_s]
      rw [ite'_t (inR_t (by omega)), ite'_t (inR_t (by omega)), ite'_t (inR_t (by omega))]
      rcases Int.lt_trichotomy x0 y0 with hxy | hxy | hxy
      · rw [ite'_t (by simpa using hxy)]
        exact ⟨-1, rfl, ⟨fun h => absurd h (by decide), fun e => absurd e (ne_at hr hr' (by simp; omega))⟩⟩
      · subst hxy
        rw [ite'_f (by simp), ite'_f (by simp), wrap_succ (m := a.length) (by omega) (by omega) hlen, show ((i : Int) + 1) = ((i + 1 : Nat) : Int) by omega]
        exact ih (i + 1) n (take_step ht hr hr') (by omega) (by omega) (by omega)
      · rw [ite'_f (by simp; omega), ite'_t (by simpa using hxy)]
        exact ⟨1, rfl, ⟨fun h => absurd h (by decide), fun e => absurd e (ne_at hr hr' (by simp; omega))⟩⟩
    · exact fin i n ht (by omega) hb' (by omega)
/-- spec.l4Ints: nought where both are the same -/
theorem c54 {k : Nat} {a b : Ovi.Rows} (ha : Fit (.list [.int .i64]) (.list 1 a)) (hb : Fit (.list [.int .i64]) (.list 1 b)) (hk : a.length < k) : ∃ r, C (k + 1) 54 [.d (.list 1 a), .d (.list 1 b)] = some [(false, [.d (.int .i64 r)])] ∧ (r = 0 ↔ a = b) := by
  rw [F54.run]
  exact l54 ha hb a.length 0 k (by simp) (by omega) (by omega) (by omega)
/-- impl.sameAtom -/
theorem c59 {k : Nat} {r s : Int} {a b : Ovi.Rows} (ha : Fit (.list [.int .i64]) (.list 1 a)) (hb : Fit (.list [.int .i64]) (.list 1 b)) (hk : a.length < k) :
    C (k + 2) 59 [.agg [.d (.int .i64 r), .d (.list 1 a)], .agg [.d (.int .i64 s), .d (.list 1 b)]] = some [(false, [.d (.bool (eqv [[.int .i64 r, .list 1 a]] [[.int .i64 s, .list 1 b]]))])] := by
  rw [F59.run]
  by_cases h : r = s
  · subst h
    rw [ite'_t (by simp), c57 ha hb hk]
    simp only [bindR_s, resB_s, bindB_s]
    congr 5
    by_cases h : a = b
    · rw [eqv_t h, eqv_t (by rw [h])]
    · rw [eqv_f h, eqv_f (by simpa using h)]
  · rw [ite'_f (by simpa using h), eqv_f (by simp [h])]
def At : Ty := .list [.int .i64, .list [.int .i64]]
theorem l58 {k : Nat} {a b : Ovi.Rows} (ha : Fit At (.list 2 a)) (hb : Fit At (.list 2 b)) (hs : szR a < k) (hl : a.length = b.length) : ∀ (m i n : Nat), a.take i = b.take i → i + m = a.length → m < n →
    F58.L4 (k + 2) (C (k + 2)) n b 59 [] a (a.length : Int) (i : Int) = some [(false, [.d (.bool (eqv a b))])] := by
  have hlen := ha.len
  intro m; induction m with
  | zero =>
    intro i n ht hm hn
    obtain ⟨n, rfl⟩ : ∃ j, n = j + 1 := ⟨n - 1, by omega⟩
    obtain rfl : i = a.length := by omega
    rw [F58.L4.succ, ite'_f (lt_f (by omega)), eqv_t (take_all ht hl)]
  | succ m ih =>
    intro i n ht hm hn
    obtain ⟨n, rfl⟩ : ∃ j, n = j + 1 := ⟨n - 1, by omega⟩
    obtain ⟨row, hr, hfr, hdr⟩ := ha.row (i := i) (by omega)
    obtain ⟨row', hr', hfr', hdr'⟩ := hb.row (i := i) (by omega)
    obtain ⟨d0, rr0, rfl, hd0, hfr0⟩ := Fits.cons hfr
    obtain ⟨x0, rfl, wx0⟩ := hd0.int
    obtain ⟨d1, rr1, rfl, hd1, hfr1⟩ := Fits.cons hfr0
    obtain ⟨x1, rfl, hx1⟩ := hd1.list (n := 1) rfl
    obtain rfl := Fits.nil hfr1
    obtain ⟨e0, ss0, rfl, he0, hfs0⟩ := Fits.cons hfr'
    obtain ⟨y0, rfl, wy0⟩ := he0.int
    obtain ⟨e1, ss1, rfl, he1, hfs1⟩ := Fits.cons hfs0
    obtain ⟨y1, rfl, hy1⟩ := he1.list (n := 1) rfl
    obtain rfl := Fits.nil hfs1
    have hsz := szR_at hr
    simp only [szC, szD] at hsz
    rw [F58.L4.succ, ite'_t (lt_t (by omega)), ite'_t (inR_t (by omega))]
    simp only [Int.toNat_natCast, cellI_at hr, cellI_at hr', cellL_at hr, cellL_at hr']
    simp only [List.getElem?_cons_zero, List.getElem?_cons_succ, Option.bind_some, asI_s, asL_s, bindI_s, bindL_s]
    rw [ite'_t (inR_t (by omega))]
    simp only [List.map_nil, List.append_eq, List.append_nil]
    rw [c59 hx1 hy1 (by omega)]
    simp only [bindR_s, resB_s, bindB_s]
    by_cases hxy : ([.int .i64 x0, .list 1 x1] : List D) = [.int .i64 y0, .list 1 y1]
    · rw [eqv_t (by rw [hxy]), ite'_nt, wrap_succ (m := a.length) (by omega) (by omega) hlen, show ((i : Int) + 1) = ((i + 1 : Nat) : Int) by omega]
      exact ih (i + 1) n (take_step ht hr (by rw [hr', hxy])) (by omega) (by omega)
    · rw [eqv_f (fun e => hxy (by injection e)), ite'_nf, eqv_f (ne_at hr hr' hxy)]
/-- slices.EqualFunc with sameAtom -/
theorem c58 {k : Nat} {a b : Ovi.Rows} (ha : Fit At (.list 2 a)) (hb : Fit At (.list 2 b)) (hk : szD (.list 2 a) < k) : C (k + 3) 58 [.d (.list 2 a), .d (.list 2 b), .d (.fn 59 [])] = some [(false, [.d (.bool (eqv a b))])] := by
  simp only [szD] at hk
  rw [F58.run]
  by_cases hl : a.length = b.length
  · rw [ite'_f (by simp [hl])]
    exact l58 ha hb (by omega) hl a.length 0 _ (by simp) (by omega) (by omega)
  · rw [ite'_t (by simp; omega), eqv_f (fun e => hl (by rw [e]))]
theorem l55 {k : Nat} {a b : Ovi.Rows} (ha : Fit At (.list 2 a)) (hb : Fit At (.list 2 b)) (hs : szR a < k) (hl : a.length = b.length) : ∀ (m i n : Nat), a.take i = b.take i → i + m = a.length → m < n →
    F55.L4 (k + 1) (C (k + 1)) n a b (i : Int) = some [(false, [.d (.bool (eqv a b))])] := by
  have hlen := ha.len
  intro m; induction m with
  | zero =>
    intro i n ht hm hn
    obtain ⟨n, rfl⟩ : ∃ j, n = j + 1 := ⟨n - 1, by omega⟩
    obtain rfl : i = a.length := by omega
    rw [F55.L4.succ, ite'_f (lt_f (by omega)), eqv_t (take_all ht hl)]
  | succ m ih =>
    intro i n ht hm hn
    obtain ⟨n, rfl⟩ : ∃ j, n = j + 1 := ⟨n - 1, by omega⟩
    obtain ⟨row, hr, hfr, hdr⟩ := ha.row (i := i) (by omega)
    obtain ⟨row', hr', hfr', hdr'⟩ := hb.row (i := i) (by omega)
    obtain ⟨d0, rr0, rfl, hd0, hfr0⟩ := Fits.cons hfr
    obtain ⟨x0, rfl, wx0⟩ := hd0.int
    obtain ⟨d1, rr1, rfl, hd1, hfr1⟩ := Fits.cons hfr0
    obtain ⟨x1, rfl, hx1⟩ := hd1.list (n := 1) rfl
    obtain rfl := Fits.nil hfr1
    obtain ⟨e0, ss0, rfl, he0, hfs0⟩ := Fits.cons hfr'
    obtain ⟨y0, rfl, wy0⟩ := he0.int
    obtain ⟨e1, ss1, rfl, he1, hfs1⟩ := Fits.cons hfs0
    obtain ⟨y1, rfl, hy1⟩ := he1.list (n := 1) rfl
    obtain rfl := Fits.nil hfs1
    have hsz := szR_at hr
    simp only [szC, szD] at hsz
    rw [F55.L4.succ, ite'_t (lt_t (by omega)), ite'_t (inR_t (by omega))]
    simp only [Int.toNat_natCast, cellI_at hr, cellI_at hr', cellL_at hr, cellL_at hr']
    simp only [List.getElem?_cons_zero, List.getElem?_cons_succ, Option.bind_some, asI_s, asL_s, bindI_s, bindL_s]
    rw [ite'_t (inR_t (by omega)), ite'_t (inR_t (by omega)), ite'_t (inR_t (by omega))]
    by_cases h0 : x0 = y0
    · subst h0
      obtain ⟨r, e, hrr⟩ := c54 (k := k) hx1 hy1 (by omega)
      rw [ite'_f (by simp), e]
      simp only [bindR_s, resI_s, bindI_s]
      by_cases h1 : x1 = y1
      · rw [ite'_f (by simpa using hrr.2 h1), wrap_succ (m := a.length) (by omega) (by omega) hlen, show ((i : Int) + 1) = ((i + 1 : Nat) : Int) by omega]
        exact ih (i + 1) n (take_step ht hr (by rw [hr', h1])) (by omega) (by omega)
      · rw [ite'_t (by simpa using fun h => h1 (hrr.1 h)), eqv_f (ne_at hr hr' (by simpa using h1))]
    · rw [ite'_t (by simpa using h0), eqv_f (ne_at hr hr' (by simp [h0]))]
/-- spec.l9Atoms -/
theorem c55 {k : Nat} {a b : Ovi.Rows} (ha : Fit At (.list 2 a)) (hb : Fit At (.list 2 b)) (hk : szD (.list 2 a) < k) : C (k + 2) 55 [.d (.list 2 a), .d (.list 2 b)] = some [(false, [.d (.bool (eqv a b))])] := by
  simp only [szD] at hk
  rw [F55.run]
  by_cases hl : a.length = b.length
  · rw [ite'_f (by simp [hl])]
    exact l55 ha hb (by omega) hl a.length 0 _ (by simp) (by omega) (by omega)
  · rw [ite'_t (by simp; omega), eqv_f (fun e => hl (by rw [e]))]
def In1 : Ty := .list [.int .i64]
/-- both programs -/
theorem c12 {k : Nat} {a0 b0 a1 b1 : Ovi.Rows} (h1 : Fit In1 (.list 1 a0)) (h2 : Fit At (.list 2 a1)) (h3 : Fit In1 (.list 1 b0)) (h4 : Fit At (.list 2 b1)) (hk : szD (.list 1 a0) < k) (hk1 : szD (.list 2 a1) < k) :
    C (k + 3) 12 [.agg [.d (.list 1 a0), .d (.list 2 a1)], .agg [.d (.list 1 b0), .d (.list 2 b1)]] = some [(false, [.d (.bool (eqv a0 b0 && eqv a1 b1))])] := by
  have hk' := hk
  simp only [szD] at hk'
  rw [F12.run]
  obtain ⟨r, e, hrr⟩ := c54 (k := k + 1) h1 h3 (by omega)
  rw [e]
  simp only [bindR_s, resI_s, bindI_s]
  by_cases h : a0 = b0
  · rw [ite'_t (by simpa using hrr.2 h), c55 h2 h4 hk1, eqv_t h]
    rfl
  · rw [ite'_f (by simpa using fun e => h (hrr.1 e)), eqv_f h]
    rfl
theorem c14 {k : Nat} {a0 b0 a1 b1 : Ovi.Rows} (h1 : Fit In1 (.list 1 a0)) (h2 : Fit At (.list 2 a1)) (h3 : Fit In1 (.list 1 b0)) (h4 : Fit At (.list 2 b1)) (hk : szD (.list 1 a0) < k) (hk1 : szD (.list 2 a1) < k) :
    C (k + 4) 14 [.agg [.d (.list 1 a0), .d (.list 2 a1)], .agg [.d (.list 1 b0), .d (.list 2 b1)]] = some [(false, [.d (.bool (eqv a0 b0 && eqv a1 b1))])] := by
  have hk' := hk
  simp only [szD] at hk'
  rw [F14.run, c57 (k := k + 2) h1 h3 (by omega)]
  simp only [bindR_s, resB_s, bindB_s]
  by_cases h : a0 = b0
  · rw [eqv_t h, ite'_t rfl, c58 h2 h4 hk1]
    rfl
  · rw [eqv_f h, ite'_f rfl]
    rfl
/-- the law -/
theorem law {k : Nat} (hk : 3000000 ≤ k) {a0 b0 a1 b1 : Ovi.Rows} (h1 : Fit In1 (.list 1 a0)) (h2 : Fit At (.list 2 a1)) (h3 : Fit In1 (.list 1 b0)) (h4 : Fit At (.list 2 b1)) :
    C k 3 [.agg [.d (.list 1 a0), .d (.list 2 a1)], .agg [.d (.list 1 b0), .d (.list 2 b1)]] = some [(false, [.d (.bool true)])] := by
  obtain ⟨k, rfl⟩ : ∃ j, k = j + 5 := ⟨k - 5, by omega⟩
  rw [F3.run, c11 (k := k + 4) (by omega) h1 h2 (by omega) (by omega)]
  simp only [bindR_s, resI_s, bindI_s]
  rcases szT_cases 1048576 (szC [D.list 1 a0, D.list 2 a1]) with ⟨q, e⟩ | ⟨q, e⟩ <;> rw [e]
  rotate_left
  · rw [ite'_t neg_t]
  rw [ite'_f (neg_f (by omega)), c11 (k := k + 4) (by omega) h3 h4 (by omega) (by omega)]
  simp only [bindR_s, resI_s, bindI_s]
  rcases szT_cases (1048576 - ((szC [D.list 1 a0, D.list 2 a1] : Nat) : Int)) (szC [D.list 1 b0, D.list 2 b1]) with ⟨q1, e1⟩ | ⟨q1, e1⟩ <;> rw [e1]
  rotate_left
  · rw [ite'_t neg_t]
  simp only [szC] at q q1
  have s0 : szD (.list 1 a0) ≤ 1048576 := by omega
  have s1 : szD (.list 2 a1) ≤ 1048576 := by omega
  have s2 : szD (.list 1 b0) ≤ 1048576 := by omega
  have s3 : szD (.list 2 b1) ≤ 1048576 := by omega
  rw [ite'_f (neg_f (by simp only [szC]; omega)), c13 (k := k + 4) (by omega) h1 h2 s0 s1, c13 (k := k + 4) (by omega) h3 h4 s2 s3]
  simp only [bindR_s, F13x0, F13x1, bindL_s]
  rw [c12 (k := k + 1) h1 h2 h3 h4 (by omega) (by omega)]
  simp only [bindR_s, resB_s, bindB_s]
  rw [c14 (k := k) h1 h2 h3 h4 (by omega) (by omega)]
  simp only [bindR_s, resB_s, bindB_s]
  rw [ite'_f (by simp), c15 (k := k + 4) (by omega) h1 h2 s0 s1, c15 (k := k + 4) (by omega) h3 h4 s2 s3]
  rfl
end Go.Proofs.Ytekcjghbfbfmpaa.Q1

/-! E1 -/
namespace Go.Proofs.Ytekcjghbfbfmpaa.Q1
open Go Ovi Go.ChangeShapes Go.WideShapes Go.ChangeAt Go.RowKit

theorem own : ownKnob Try.prog.godebug = none := by kernel_rfl
theorem laidOut : laidOutB Try.prog = true := by kernel_rfl
theorem ok : progOk Try.prog = true := by kernel_rfl
theorem mixed : Try.prog.follows .mixedOrders = true := by kernel_rfl
theorem sound (k : Nat) : Sound Try.prog (C k) := evCall_ok (drawSound mixed) (okProg ok) (fun _ _ => rfl) (sound_none _) k
end Go.Proofs.Ytekcjghbfbfmpaa.Q1

/-! E1b -/
namespace Go.Proofs.Ytekcjghbfbfmpaa.Q1
open Go Ovi Go.ChangeShapes Go.WideShapes Go.ChangeAt Go.RowKit
theorem boolT : Try.prog.underlying 4 = some .bool := by kernel_rfl
def qTy : Bool × List Ty := (true, [.list [.int .i64], .list [.int .i64, .list [.int .i64]]])
theorem tys : parTys Try.prog Try.f3.params.toList = some [qTy, qTy] := by kernel_rfl
theorem readable3 : readable Try.prog Try.f3.params.toList = true := by kernel_rfl
theorem law_args {av : List AV} (h : ArgsFit [qTy, qTy] av) : C 3000000 3 av = some yes := by
  match av, h with
  | [a, b], h =>
    simp only [ArgsFit, and_true] at h
    obtain ⟨h1, h2⟩ := h
    cases a <;> simp only [qTy, ArgFit] at h1
    cases b <;> simp only [qTy, ArgFit] at h2
    obtain ⟨ds, rfl, h1⟩ := h1
    obtain ⟨es, rfl, h2⟩ := h2
    obtain ⟨d0, r0, rfl, f0, h1⟩ := Fits.cons h1
    obtain ⟨d1, r1, rfl, f1, h1⟩ := Fits.cons h1
    obtain rfl := Fits.nil h1
    obtain ⟨e0, s0, rfl, g0, h2⟩ := Fits.cons h2
    obtain ⟨e1, s1, rfl, g1, h2⟩ := Fits.cons h2
    obtain rfl := Fits.nil h2
    obtain ⟨x0, rfl, f0⟩ := f0.list (n := 1) rfl
    obtain ⟨x1, rfl, f1⟩ := f1.list (n := 2) rfl
    obtain ⟨y0, rfl, g0⟩ := g0.list (n := 1) rfl
    obtain ⟨y1, rfl, g1⟩ := g1.list (n := 2) rfl
    exact law (Nat.le_refl _) f0 f1 g0 g1
set_option maxRecDepth 100000 in
theorem lifted (os : Os) (started : os.Started) (H : Type) (enc : TypeId × Value → H) :
    ReturnsInHanded {} Try.checked os 3 .any (Rows.fnExactEqualQueriesSpec.pre6 enc Try.prog Try.f3 Rows.fnExactEqualQueriesRow.domain false) (Rows.fnExactEqualQueriesSpec.post enc Try.prog Try.f3 false true false false) := by
  refine returnsInHanded_of_change (C := Try.checked) own started (by kernel_rfl) Try.func3
    (ChangeSpec.witness6 (enc := enc) (C := Try.checked) false ⟨#[], #[.agg #[.slice none 0 0, .slice none 0 0], .agg #[.slice none 0 0, .slice none 0 0]], []⟩ 8 (by kernel_rfl) (by kernel_rfl) (by kernel_rfl) (by kernel_rfl)) ?_
  intro W base args ds gs before hval0 hW hcnd _
  have hval : ∀ (j : Nat) t v, Try.f3.params[j]? = some t → args[j]? = some v → Value.okWide Try.prog W .any base t v := hval0
  have hW' := hW
  obtain ⟨p, q, hA0, hV, rfl, hfz, hnd⟩ := hW
  have hA : DataW.TrodAll enc Try.prog W 0 (fun _ => true) true Try.f3.params.toList args.toList ds p := hA0
  obtain ⟨rfl, rfl⟩ := trodVars_none hV
  obtain ⟨av, hfit, hlen, hac⟩ := args_in hA (base := base) (fun j t v h1 h2 => hval j t v (by simpa using h1) (by simpa using h2)) tys
  refine (calls_yes (sound 3000000) (law_args hfit) (vs := args) ⟨by simpa using hlen, fun j a ha => by
    obtain ⟨u, hu, hc⟩ := hac j a ha
    exact ⟨u, by simpa using hu, hc⟩⟩).mono fun e W' ⟨he, bel⟩ => ?_
  subst he
  have hk := kept_all laidOut bel readable3 hA
  obtain ⟨d1, d2, rfl⟩ : ∃ d1 d2, ds = [d1, d2] := by
    obtain ⟨v0, vs0, d0, ds0, p0, q0, hargs, rfl, rfl, h0, r0⟩ := trodAll_cons hA
    obtain ⟨v1, vs1, d1, ds1, p1, q1, rfl, rfl, rfl, h1, r1⟩ := trodAll_cons r0
    obtain ⟨rfl, rfl, rfl⟩ := trodAll_nil r1
    exact ⟨_, _, rfl⟩
  exact ⟨_, rfl, _, _, _, [], _, [], hW', trodAll_mk1 (shut_bool boolT _), hk, rfl, bel.frame _, fun h => by cases h⟩

theorem over : Rows.fnExactEqualQueriesRow.holds Try.pinned (OpenSpec.ofChange Rows.fnExactEqualQueriesSpec) :=
  OpenClaim.holds_of_wide 3 Try.f3 rfl rfl rfl rfl rfl rfl rfl ⟨rfl, rfl, rfl, rfl, rfl⟩ rfl rfl rfl rfl rfl (by kernel_rfl) Try.func3 (by kernel_rfl)
    (of_decide_eq_true (by kernel_rfl)) (by unfold Func.isWrapper; first | (rw [if_pos (by decide +kernel)]; kernel_rfl) | (rw [if_neg (by decide +kernel)]; exact ⟨rfl, rfl⟩))
    (fun os started H enc _ => lifted os started H enc)
end Go.Proofs.Ytekcjghbfbfmpaa.Q1
namespace Go.Proofs.Ytekcjghbfbfmpaa
theorem fnExactEqualQueries_holds : Rows.FnExactEqualQueriesSaid := Q1.over
#print axioms fnExactEqualQueries_holds
end Go.Proofs.Ytekcjghbfbfmpaa

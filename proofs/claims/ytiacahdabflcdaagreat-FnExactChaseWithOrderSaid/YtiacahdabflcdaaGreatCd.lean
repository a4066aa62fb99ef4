/-
Towards the law: a machine that runs the program's own code on plain data, its soundness, the library by its contracts, and what the functions compute: part 4. No condition.
-/
import Derived.Test.YtiacahdabflcdaaGreatCc
import Derived.Test.YtiacahdabflcdaaGreatCb
set_option linter.unusedVariables false
set_option linter.unusedSimpArgs false
namespace Go.Proofs.YtiacahdabflcdaaGreat.Q
open Go Ovi
set_option maxRecDepth 1000000
theorem crun (k:Nat) (f:FuncId) {fn:Func} {args:List AV} (h1:prim f=none) (h2:P.funcs[f]? = some fn) (h3:zco args=false):C (k+1) f args=zc5 P hs (C k) f k fn args:=by
 show zbo P hs prim (k+1) f args=_
 unfold zbo
 rw [h1,h2,h3]
 rfl
theorem F6.run (k:Nat) (a0_0 a0_1:Ovi.Rows) (a1:Int):C (k+1) 6 [.agg [.d (.list 3 a0_0),.d (.list 2 a0_1)],.d (.int .i64 a1)]=zb ((C k) 33 [.d (.list 3 a0_0),.d (.int .i64 a1)]) fun r5=>zg (resI .i64 1 false 1 r5 0 0) fun n6=>ite' (decide (n6 < 0)) (some ([(false,[.d (.int .i64 (-1))])])) (zb ((C k) 34 [.d (.list 2 a0_1),.d (.int .i64 n6)]) fun r7=>zg (resI .i64 1 false 1 r7 0 0) fun n8=>ite' (decide (n8 < 0)) (some ([(false,[.d (.int .i64 (-1))])])) (some ([(false,[.d (.int .i64 n8)])]))):=(crun k 6 (by kernel_rfl) Tryz.func6 rfl).trans (by kernel_rfl)
noncomputable def F7.L5 (k:Nat) (call:zi) (n:Nat) (v0:Ovi.Rows) (v1 v2:Int):Option Res:=zt P hs call 7 k Tryz.f7 [1,1,1,0,1,0] [] n [(0,.d (.list 5 v0)),(1,.d (.int .i64 v1)),(5,.d (.int .i64 v2))] []
theorem F7.L5.succ (k:Nat) (call:zi) (n:Nat) (v0:Ovi.Rows) (v1 v2:Int):F7.L5 k call (n+1) v0 v1 v2=ite' (decide (v2 < ((List.length v0):Int))) (ite' (inR v2 (List.length v0)) (zc (zw 2 v0 v2.toNat 0) fun l8=>zc (zw 2 v0 v2.toNat 1) fun l9=>zj (zan v0 v2.toNat 2) fun b10=>zg (zm .i64 v0 v2.toNat 3) fun n11=>zg (zm .i64 v0 v2.toNat 4) fun n12=>zb (call 35 [.agg [.d (.list 2 l8),.d (.list 2 l9),.d (.bool b10),.d (.int .i64 n11),.d (.int .i64 n12)],.d (.int .i64 v1)]) fun r13=>zg (resI .i64 1 false 1 r13 0 0) fun n14=>ite' (decide (n14 < 0)) (some ([(false,[.d (.int .i64 (-1))])])) (F7.L5 k call n v0 n14 (IntKind.i64.wrap (v2+1)))) none) (some ([(false,[.d (.int .i64 v1)])])):=by kernel_rfl
theorem F7.run (k:Nat) (a0:Ovi.Rows) (a1:Int):C (k+1) 7 [.d (.list 5 a0),.d (.int .i64 a1)]=ite' (decide (IntKind.i64.wrap (a1 - ((List.length a0):Int)) < 0)) (some ([(false,[.d (.int .i64 (-1))])])) (F7.L5 k (C k) k a0 (IntKind.i64.wrap (a1 - ((List.length a0):Int))) 0):=(crun k 7 (by kernel_rfl) Tryz.func7 rfl).trans (by kernel_rfl)
theorem F8.run (k:Nat) (a0_0 a0_1 a1 a2:Ovi.Rows):C (k+1) 8 [.agg [.d (.list 3 a0_0),.d (.list 2 a0_1)],.d (.list 5 a1),.d (.list 1 a2)]=zb ((C k) 36 [.agg [.d (.list 3 a0_0),.d (.list 2 a0_1)],.d (.list 5 a1),.d (.list 1 a2)]) fun r6=>zc (resL 3 2 true 4 r6 0 0) fun l7=>zc (resL 2 2 true 4 r6 0 1) fun l8=>zg (resI .i64 2 true 4 r6 0 2) fun n9=>zc (resL 2 2 true 4 r6 0 3) fun l10=>zj (resB 2 false 1 r6 1 0) fun b11=>some ([(true,[.d (.list 3 l7),.d (.list 2 l8),.d (.int .i64 n9),.d (.list 2 l10)]),(false,[.d (.bool b11)])]):=(crun k 8 (by kernel_rfl) Tryz.func8 rfl).trans (by kernel_rfl)
theorem F9.run (k:Nat) (a0_0 a0_1:Ovi.Rows):C (k+1) 9 [.agg [.d (.list 3 a0_0),.d (.list 2 a0_1)]]=zb ((C k) 37 [.d (.list 3 a0_0)]) fun r4=>zc (resO 112 3 1 false 1 r4 0 0) fun l5=>zb ((C k) 38 [.d (.list 2 a0_1)]) fun r6=>zc (resF 114 2 1 1 false 1 r6 0 0) fun l7=>some ([(true,[.row 112 3 l5,.frow 114 2 1 l7])]):=(crun k 9 (by kernel_rfl) Tryz.func9 rfl).trans (by kernel_rfl)
noncomputable def F10.L3 (k:Nat) (call:zi) (n:Nat) (v0:Ovi.Rows) (v1:Int) (v2:Ovi.Rows):Option Res:=zt P hs call 10 k Tryz.f10 [1,1,0,1,0] [] n [(0,.d (.list 5 v0)),(3,AV.own 100003 0),(4,.d (.int .i64 v1))] [(100003,Blk.arr 76 5 0 v2 (2,0,0))]
theorem F10.L3.succ (k:Nat) (call:zi) (n:Nat) (v0:Ovi.Rows) (v1:Int) (v2:Ovi.Rows):F10.L3 k call (n+1) v0 v1 v2=ite' (decide (v1 < ((List.length v0):Int))) (ite' (inR v1 (List.length v0)) (zc (zw 2 v0 v1.toNat 0) fun l7=>zc (zw 2 v0 v1.toNat 1) fun l8=>zj (zan v0 v1.toNat 2) fun b9=>zg (zm .i64 v0 v1.toNat 3) fun n10=>zg (zm .i64 v0 v1.toNat 4) fun n11=>zb (call 39 [.agg [.d (.list 2 l7),.d (.list 2 l8),.d (.bool b9),.d (.int .i64 n10),.d (.int .i64 n11)]]) fun r12=>zc (resF 133 2 1 1 true 5 r12 0 0) fun l13=>zc (resF 133 2 1 1 true 5 r12 0 1) fun l14=>zj (resB 1 true 5 r12 0 2) fun b15=>zg (resI .i64 1 true 5 r12 0 3) fun n16=>zg (resI .i64 1 true 5 r12 0 4) fun n17=>ite' (inR v1 (List.length v2)) (F10.L3 k call n v0 (IntKind.i64.wrap (v1+1)) (zai v2 v1.toNat 0 [D.list 2 l13,D.list 2 l14,D.bool b15,D.int .i64 n16,D.int .i64 n17])) none) none) (some ([(false,[.frow 76 5 2 v2])])):=by kernel_rfl
theorem F10.run (k:Nat) (a0:Ovi.Rows):C (k+1) 10 [.d (.list 5 a0)]=ite' (((List.length a0):Int)==((List.length a0):Int)) (ite' (inM ((List.length a0):Int)) (F10.L3 k (C k) k a0 0 (zbi ((List.length a0):Int) [D.list 2 [],D.list 2 [],D.bool false,D.int .i64 0,D.int .i64 0])) none) none:=(crun k 10 (by kernel_rfl) Tryz.func10 rfl).trans (by kernel_rfl)
noncomputable def F11.L3 (k:Nat) (call:zi) (n:Nat) (v0:Ovi.Rows) (v1:Int) (v2:Ovi.Rows):Option Res:=zt P hs call 11 k Tryz.f11 [1,1,0,1,0] [] n [(0,.d (.list 1 v0)),(3,AV.own 100003 0),(4,.d (.int .i64 v1))] [(100003,Blk.arr 3 1 0 v2 (0,0,0))]
theorem F11.L3.succ (k:Nat) (call:zi) (n:Nat) (v0:Ovi.Rows) (v1:Int) (v2:Ovi.Rows):F11.L3 k call (n+1) v0 v1 v2=ite' (decide (v1 < ((List.length v0):Int))) (ite' (inR v1 (List.length v0)) (zg (zm .i64 v0 v1.toNat 0) fun n7=>ite' (inR v1 (List.length v2)) (F11.L3 k call n v0 (IntKind.i64.wrap (v1+1)) (zai v2 v1.toNat 0 [D.int .i64 n7])) none) none) (some ([(false,[.row 3 1 v2])])):=by kernel_rfl
theorem F11.run (k:Nat) (a0:Ovi.Rows):C (k+1) 11 [.d (.list 1 a0)]=ite' (((List.length a0):Int)==((List.length a0):Int)) (ite' (inM ((List.length a0):Int)) (F11.L3 k (C k) k a0 0 (zbi ((List.length a0):Int) [D.int .i64 0])) none) none:=(crun k 11 (by kernel_rfl) Tryz.func11 rfl).trans (by kernel_rfl)
noncomputable def F12.L5 (k:Nat) (call:zi) (n:Nat) (v0 v1:Ovi.Rows) (v2 v3:Int) (v4 v5 v6:List (List D)) (v7:Int) (v8 v9:Ovi.Rows) (v10:List (List D)):Option Res:=zt P hs call 12 k Tryz.f12 [1,1,1,0,1,0] [] n [(1,.d (.list 5 v0)),(2,.d (.list 1 v1)),(6,.var 384 0),(8,.var 512 0),(9,.d (.int .i64 v2))] [(384,Blk.var [AV.own 200096 0,AV.own 200097 0,.d (.int .i64 v3),AV.own 200099 0]),(200096,Blk.arr 112 3 0 v4 (0,0,0)),(200097,Blk.arr 114 2 0 v5 (1,0,0)),(200099,Blk.arr 83 2 0 v6 (1,0,0)),(512,Blk.var [AV.own 200128 0,AV.own 200129 0,.d (.int .i64 v7),AV.own 200131 0]),(200128,Blk.arr 112 3 0 v8 (0,0,0)),(200129,Blk.arr 114 2 0 v9 (1,0,0)),(200131,Blk.arr 83 2 0 v10 (1,0,0))]
theorem F12.L5.succ (k:Nat) (call:zi) (n:Nat) (v0 v1:Ovi.Rows) (v2 v3:Int) (v4 v5 v6:List (List D)) (v7:Int) (v8 v9:Ovi.Rows) (v10:List (List D)):F12.L5 k call (n+1) v0 v1 v2 v3 v4 v5 v6 v7 v8 v9 v10=ite' (v7==1) (ite' (v2==60) (some ([(true,[.frow 112 3 0 v8,.frow 114 2 1 v9,.d (.int .i64 3),.frow 83 2 1 v10]),(false,[.d (.bool true)])])) (zb (call 43 [.agg [.d (.list 3 v8),.d (.list 2 v9)],.d (.list 5 v0)]) fun r18=>zc (resF 83 2 1 1 false 1 r18 0 0) fun l19=>ite' (depR 1 l19) (ite' (((List.length l19):Int)==0) (some ([(true,[.frow 112 3 0 v8,.frow 114 2 1 v9,.d (.int .i64 v7),.frow 83 2 1 v10]),(false,[.d (.bool true)])])) (ite' (decide (((List.length v1):Int) > 0)) (ite' (((List.length v1):Int)==0) none (ite' (inR (v2.tmod ((List.length v1):Int)) (List.length v1)) (zg (zm .i64 v1 (v2.tmod ((List.length v1):Int)).toNat 0) fun n20=>ite' (((List.length l19):Int)==0) none (ite' (((List.length l19):Int)==0) none (ite' (inR ((IntKind.i64.wrap (n20.tmod ((List.length l19):Int)+((List.length l19):Int))).tmod ((List.length l19):Int)) (List.length l19)) (zg (zm .i64 l19 ((IntKind.i64.wrap (n20.tmod ((List.length l19):Int)+((List.length l19):Int))).tmod ((List.length l19):Int)).toNat 0) fun n21=>zc (zw 1 l19 ((IntKind.i64.wrap (n20.tmod ((List.length l19):Int)+((List.length l19):Int))).tmod ((List.length l19):Int)).toNat 1) fun l22=>ite' (inR n21 (List.length v0)) (zc (zw 2 v0 n21.toNat 0) fun l23=>zc (zw 2 v0 n21.toNat 1) fun l24=>zj (zan v0 n21.toNat 2) fun b25=>zg (zm .i64 v0 n21.toNat 3) fun n26=>zg (zm .i64 v0 n21.toNat 4) fun n27=>zb (call 44 [.agg [.d (.list 3 v8),.d (.list 2 v9)],.agg [.d (.list 2 l23),.d (.list 2 l24),.d (.bool b25),.d (.int .i64 n26),.d (.int .i64 n27)],.d (.list 1 l22)]) fun r28=>zc (resO 112 3 2 true 2 r28 0 0) fun l29=>zc (resF 114 2 1 2 true 2 r28 0 1) fun l30=>zg (resI .i64 2 false 1 r28 1 0) fun n31=>ite' (Nat.ble 0 ((IntKind.i64.wrap (n20.tmod ((List.length l19):Int)+((List.length l19):Int))).tmod ((List.length l19):Int)).toNat) (ite' (fits (v10.length+[[D.int .i64 n21,D.list 1 l22]].length)) (F12.L5 k call n v0 v1 (IntKind.i64.wrap (v2+1)) v3 v4 v5 v6 n31 l29 l30 (v10++[[D.int .i64 n21,D.list 1 l22]])) none) (ite' (fits (v10.length+[[D.int .i64 n21,D.list 1 l22]].length)) none none)) none) none))) none)) (ite' (inR 0 (List.length l19)) (zg (zm .i64 l19 0 0) fun n20=>zc (zw 1 l19 0 1) fun l21=>ite' (inR n20 (List.length v0)) (zc (zw 2 v0 n20.toNat 0) fun l22=>zc (zw 2 v0 n20.toNat 1) fun l23=>zj (zan v0 n20.toNat 2) fun b24=>zg (zm .i64 v0 n20.toNat 3) fun n25=>zg (zm .i64 v0 n20.toNat 4) fun n26=>zb (call 44 [.agg [.d (.list 3 v8),.d (.list 2 v9)],.agg [.d (.list 2 l22),.d (.list 2 l23),.d (.bool b24),.d (.int .i64 n25),.d (.int .i64 n26)],.d (.list 1 l21)]) fun r27=>zc (resO 112 3 2 true 2 r27 0 0) fun l28=>zc (resF 114 2 1 2 true 2 r27 0 1) fun l29=>zg (resI .i64 2 false 1 r27 1 0) fun n30=>ite' (fits (v10.length+[[D.int .i64 n20,D.list 1 l21]].length)) (F12.L5 k call n v0 v1 (IntKind.i64.wrap (v2+1)) v3 v4 v5 v6 n30 l28 l29 (v10++[[D.int .i64 n20,D.list 1 l21]])) none) none) none))) none)) (some ([(true,[.frow 112 3 0 v8,.frow 114 2 1 v9,.d (.int .i64 v7),.frow 83 2 1 v10]),(false,[.d (.bool true)])])):=by kernel_rfl
theorem F12.run (k:Nat) (a0_0 a0_1 a1 a2:Ovi.Rows):C (k+1) 12 [.agg [.d (.list 3 a0_0),.d (.list 2 a0_1)],.d (.list 5 a1),.d (.list 1 a2)]=zb ((C k) 40 [.agg [.d (.list 3 a0_0),.d (.list 2 a0_1)]]) fun r6=>zj (resB 1 false 1 r6 0 0) fun b7=>ite' (!b7) (some ([(true,[.nil,.nil,.d (.int .i64 0),.nil]),(false,[.d (.bool false)])])) (zb ((C k) 41 [.d (.list 3 a0_0),.d (.list 5 a1)]) fun r8=>zj (resB 1 false 1 r8 0 0) fun b9=>ite' (!b9) (some ([(true,[.nil,.nil,.d (.int .i64 0),.nil]),(false,[.d (.bool false)])])) (zb ((C k) 42 [.agg [.d (.list 3 a0_0),.d (.list 2 a0_1)]]) fun r10=>zc (resO 112 3 1 true 2 r10 0 0) fun l11=>zc (resF 114 2 1 1 true 2 r10 0 1) fun l12=>F12.L5 k (C k) k a1 a2 0 0 [] [] [] 1 l11 l12 [])):=(crun k 12 (by kernel_rfl) Tryz.func12 rfl).trans (by kernel_rfl)
theorem F13.run (k:Nat) (a0_0 a0_1:Ovi.Rows) (a0_2:Int) (a0_3 a1_0 a1_1:Ovi.Rows) (a1_2:Int) (a1_3:Ovi.Rows):C (k+1) 13 [.agg [.d (.list 3 a0_0),.d (.list 2 a0_1),.d (.int .i64 a0_2),.d (.list 2 a0_3)],.agg [.d (.list 3 a1_0),.d (.list 2 a1_1),.d (.int .i64 a1_2),.d (.list 2 a1_3)]]=zb ((C k) 14 [.agg [.d (.list 3 a0_0),.d (.list 2 a0_1)],.agg [.d (.list 3 a1_0),.d (.list 2 a1_1)]]) fun r10=>zj (resB 1 false 1 r10 0 0) fun b11=>ite' (!b11) (some ([(false,[.d (.bool false)])])) (ite' (a0_2 != a1_2) (some ([(false,[.d (.bool false)])])) (zb ((C k) 45 [.d (.list 2 a0_3),.d (.list 2 a1_3)]) fun r12=>zj (resB 1 false 1 r12 0 0) fun b13=>ite' (!b13) (some ([(false,[.d (.bool false)])])) (some ([(false,[.d (.bool true)])])))):=(crun k 13 (by kernel_rfl) Tryz.func13 rfl).trans (by kernel_rfl)
theorem F14.run (k:Nat) (a0_0 a0_1 a1_0 a1_1:Ovi.Rows):C (k+1) 14 [.agg [.d (.list 3 a0_0),.d (.list 2 a0_1)],.agg [.d (.list 3 a1_0),.d (.list 2 a1_1)]]=zb ((C k) 46 [.d (.list 3 a0_0),.d (.list 3 a1_0)]) fun r6=>zj (resB 1 false 1 r6 0 0) fun b7=>ite' (!b7) (some ([(false,[.d (.bool false)])])) (zb ((C k) 47 [.d (.list 2 a0_1),.d (.list 2 a1_1)]) fun r8=>zj (resB 1 false 1 r8 0 0) fun b9=>ite' (!b9) (some ([(false,[.d (.bool false)])])) (some ([(false,[.d (.bool true)])]))):=(crun k 14 (by kernel_rfl) Tryz.func14 rfl).trans (by kernel_rfl)
noncomputable def F15.L4 (k:Nat) (call:zi) (n:Nat) (v0 v1:Ovi.Rows) (v2:Int):Option Res:=zt P hs call 15 k Tryz.f15 [1,1,0,1,0] [] n [(0,.d (.list 5 v0)),(1,.d (.list 5 v1)),(5,.d (.int .i64 v2))] []
theorem F15.L4.succ (k:Nat) (call:zi) (n:Nat) (v0 v1:Ovi.Rows) (v2:Int):F15.L4 k call (n+1) v0 v1 v2=ite' (decide (v2 < ((List.length v0):Int))) (ite' (inR v2 (List.length v0)) (zc (zw 2 v0 v2.toNat 0) fun l8=>zc (zw 2 v0 v2.toNat 1) fun l9=>zj (zan v0 v2.toNat 2) fun b10=>zg (zm .i64 v0 v2.toNat 3) fun n11=>zg (zm .i64 v0 v2.toNat 4) fun n12=>ite' (inR v2 (List.length v1)) (zc (zw 2 v1 v2.toNat 0) fun l13=>zc (zw 2 v1 v2.toNat 1) fun l14=>zj (zan v1 v2.toNat 2) fun b15=>zg (zm .i64 v1 v2.toNat 3) fun n16=>zg (zm .i64 v1 v2.toNat 4) fun n17=>zb (call 48 [.agg [.d (.list 2 l8),.d (.list 2 l9),.d (.bool b10),.d (.int .i64 n11),.d (.int .i64 n12)],.agg [.d (.list 2 l13),.d (.list 2 l14),.d (.bool b15),.d (.int .i64 n16),.d (.int .i64 n17)]]) fun r18=>zj (resB 1 false 1 r18 0 0) fun b19=>ite' (!b19) (some ([(false,[.d (.bool false)])])) (F15.L4 k call n v0 v1 (IntKind.i64.wrap (v2+1)))) none) none) (some ([(false,[.d (.bool true)])])):=by kernel_rfl
theorem F15.run (k:Nat) (a0 a1:Ovi.Rows):C (k+1) 15 [.d (.list 5 a0),.d (.list 5 a1)]=ite' (((List.length a0):Int) != ((List.length a1):Int)) (some ([(false,[.d (.bool false)])])) (F15.L4 k (C k) k a0 a1 0):=(crun k 15 (by kernel_rfl) Tryz.func15 rfl).trans (by kernel_rfl)
noncomputable def F16.L4 (k:Nat) (call:zi) (n:Nat) (v0 v1:Ovi.Rows) (v2:Int):Option Res:=zt P hs call 16 k Tryz.f16 [1,1,0,1,0] [] n [(0,.d (.list 1 v0)),(1,.d (.list 1 v1)),(5,.d (.int .i64 v2))] []
theorem F16.L4.succ (k:Nat) (call:zi) (n:Nat) (v0 v1:Ovi.Rows) (v2:Int):F16.L4 k call (n+1) v0 v1 v2=ite' (decide (v2 < ((List.length v0):Int))) (ite' (inR v2 (List.length v0)) (zg (zm .i64 v0 v2.toNat 0) fun n8=>ite' (inR v2 (List.length v1)) (zg (zm .i64 v1 v2.toNat 0) fun n9=>ite' (n8 != n9) (some ([(false,[.d (.bool false)])])) (F16.L4 k call n v0 v1 (IntKind.i64.wrap (v2+1)))) none) none) (some ([(false,[.d (.bool true)])])):=by kernel_rfl
theorem F16.run (k:Nat) (a0 a1:Ovi.Rows):C (k+1) 16 [.d (.list 1 a0),.d (.list 1 a1)]=ite' (((List.length a0):Int) != ((List.length a1):Int)) (some ([(false,[.d (.bool false)])])) (F16.L4 k (C k) k a0 a1 0):=(crun k 16 (by kernel_rfl) Tryz.func16 rfl).trans (by kernel_rfl)
theorem F21.run (k:Nat) (a0_0 a0_1:Ovi.Rows) (a0_2:Int) (a0_3:Ovi.Rows) (a1:Int):C (k+1) 21 [.agg [.d (.list 3 a0_0),.d (.list 2 a0_1),.d (.int .i64 a0_2),.d (.list 2 a0_3)],.d (.int .i64 a1)]=zb ((C k) 53 [.agg [.d (.list 3 a0_0),.d (.list 2 a0_1)],.d (.int .i64 a1)]) fun r7=>zg (resI .i64 1 false 1 r7 0 0) fun n8=>ite' (decide (n8 < 0)) (some ([(false,[.d (.int .i64 (-1))])])) (zb ((C k) 54 [.d (.list 2 a0_3),.d (.int .i64 n8)]) fun r9=>zg (resI .i64 1 false 1 r9 0 0) fun n10=>ite' (decide (n10 < 0)) (some ([(false,[.d (.int .i64 (-1))])])) (some ([(false,[.d (.int .i64 n10)])]))):=(crun k 21 (by kernel_rfl) Tryz.func21 rfl).trans (by kernel_rfl)
theorem F22.run (k:Nat) (a0_0 a0_1 a1:Ovi.Rows):C (k+1) 22 [.agg [.d (.list 3 a0_0),.d (.list 2 a0_1)],.d (.list 5 a1)]=zb ((C k) 36 [.agg [.d (.list 3 a0_0),.d (.list 2 a0_1)],.d (.list 5 a1),.d (.list 0 [])]) fun r5=>zc (resL 3 2 true 4 r5 0 0) fun l6=>zc (resL 2 2 true 4 r5 0 1) fun l7=>zg (resI .i64 2 true 4 r5 0 2) fun n8=>zc (resL 2 2 true 4 r5 0 3) fun l9=>zj (resB 2 false 1 r5 1 0) fun b10=>some ([(true,[.d (.list 3 l6),.d (.list 2 l7),.d (.int .i64 n8),.d (.list 2 l9)]),(false,[.d (.bool b10)])]):=(crun k 22 (by kernel_rfl) Tryz.func22 rfl).trans (by kernel_rfl)
theorem F23.run (k:Nat) (a0_0 a0_1 a1:Ovi.Rows):C (k+1) 23 [.agg [.d (.list 3 a0_0),.d (.list 2 a0_1)],.d (.list 5 a1)]=zb ((C k) 12 [.agg [.d (.list 3 a0_0),.d (.list 2 a0_1)],.d (.list 5 a1),.d (.list 0 [])]) fun r5=>zc (resF 112 3 0 2 true 4 r5 0 0) fun l6=>ite' (depR 0 l6) (zc (resF 114 2 1 2 true 4 r5 0 1) fun l7=>ite' (depR 1 l7) (zg (resI .i64 2 true 4 r5 0 2) fun n8=>zc (resF 83 2 1 2 true 4 r5 0 3) fun l9=>ite' (depR 1 l9) (zj (resB 2 false 1 r5 1 0) fun b10=>some ([(true,[.frow 112 3 0 l6,.frow 114 2 1 l7,.d (.int .i64 n8),.frow 83 2 1 l9]),(false,[.d (.bool b10)])])) none) none) none:=(crun k 23 (by kernel_rfl) Tryz.func23 rfl).trans (by kernel_rfl)
noncomputable def F33.L5 (k:Nat) (call:zi) (n:Nat) (v0:Ovi.Rows) (v1 v2:Int):Option Res:=zt P hs call 33 k Tryz.f33 [1,1,1,0,1,0] [] n [(0,.d (.list 3 v0)),(1,.d (.int .i64 v1)),(5,.d (.int .i64 v2))] []
theorem F33.L5.succ (k:Nat) (call:zi) (n:Nat) (v0:Ovi.Rows) (v1 v2:Int):F33.L5 k call (n+1) v0 v1 v2=ite' (decide (v2 < ((List.length v0):Int))) (ite' (inR v2 (List.length v0)) (zbl (zbm v0 v2.toNat 0) fun s8=>zg (zm .i64 v0 v2.toNat 1) fun n9=>zj (zan v0 v2.toNat 2) fun b10=>zb (call 65 [.agg [.d (.str s8),.d (.int .i64 n9),.d (.bool b10)],.d (.int .i64 v1)]) fun r11=>zg (resI .i64 1 false 1 r11 0 0) fun n12=>ite' (decide (n12 < 0)) (some ([(false,[.d (.int .i64 (-1))])])) (F33.L5 k call n v0 n12 (IntKind.i64.wrap (v2+1)))) none) (some ([(false,[.d (.int .i64 v1)])])):=by kernel_rfl
theorem F33.run (k:Nat) (a0:Ovi.Rows) (a1:Int):C (k+1) 33 [.d (.list 3 a0),.d (.int .i64 a1)]=ite' (decide (IntKind.i64.wrap (a1 - ((List.length a0):Int)) < 0)) (some ([(false,[.d (.int .i64 (-1))])])) (F33.L5 k (C k) k a0 (IntKind.i64.wrap (a1 - ((List.length a0):Int))) 0):=(crun k 33 (by kernel_rfl) Tryz.func33 rfl).trans (by kernel_rfl)
noncomputable def F34.L5 (k:Nat) (call:zi) (n:Nat) (v0:Ovi.Rows) (v1 v2:Int):Option Res:=zt P hs call 34 k Tryz.f34 [1,1,1,0,1,0] [] n [(0,.d (.list 2 v0)),(1,.d (.int .i64 v1)),(5,.d (.int .i64 v2))] []
theorem F34.L5.succ (k:Nat) (call:zi) (n:Nat) (v0:Ovi.Rows) (v1 v2:Int):F34.L5 k call (n+1) v0 v1 v2=ite' (decide (v2 < ((List.length v0):Int))) (ite' (inR v2 (List.length v0)) (zg (zm .i64 v0 v2.toNat 0) fun n8=>zc (zw 1 v0 v2.toNat 1) fun l9=>zb (call 66 [.agg [.d (.int .i64 n8),.d (.list 1 l9)],.d (.int .i64 v1)]) fun r10=>zg (resI .i64 1 false 1 r10 0 0) fun n11=>ite' (decide (n11 < 0)) (some ([(false,[.d (.int .i64 (-1))])])) (F34.L5 k call n v0 n11 (IntKind.i64.wrap (v2+1)))) none) (some ([(false,[.d (.int .i64 v1)])])):=by kernel_rfl
theorem F34.run (k:Nat) (a0:Ovi.Rows) (a1:Int):C (k+1) 34 [.d (.list 2 a0),.d (.int .i64 a1)]=ite' (decide (IntKind.i64.wrap (a1 - ((List.length a0):Int)) < 0)) (some ([(false,[.d (.int .i64 (-1))])])) (F34.L5 k (C k) k a0 (IntKind.i64.wrap (a1 - ((List.length a0):Int))) 0):=(crun k 34 (by kernel_rfl) Tryz.func34 rfl).trans (by kernel_rfl)
theorem F35.run (k:Nat) (a0_0 a0_1:Ovi.Rows) (a0_2:Bool) (a0_3 a0_4 a1:Int):C (k+1) 35 [.agg [.d (.list 2 a0_0),.d (.list 2 a0_1),.d (.bool a0_2),.d (.int .i64 a0_3),.d (.int .i64 a0_4)],.d (.int .i64 a1)]=zb ((C k) 67 [.d (.list 2 a0_0),.d (.int .i64 a1)]) fun r8=>zg (resI .i64 1 false 1 r8 0 0) fun n9=>ite' (decide (n9 < 0)) (some ([(false,[.d (.int .i64 (-1))])])) (zb ((C k) 67 [.d (.list 2 a0_1),.d (.int .i64 n9)]) fun r10=>zg (resI .i64 1 false 1 r10 0 0) fun n11=>ite' (decide (n11 < 0)) (some ([(false,[.d (.int .i64 (-1))])])) (some ([(false,[.d (.int .i64 n11)])]))):=(crun k 35 (by kernel_rfl) Tryz.func35 rfl).trans (by kernel_rfl)
noncomputable def F36.L5 (k:Nat) (call:zi) (n:Nat) (v0 v1:Ovi.Rows) (v2 v3:Int) (v4 v5 v6:List (List D)) (v7 v8:Ovi.Rows) (v9:Int) (v10:List (List D)):Option Res:=zt P hs call 36 k Tryz.f36 [1,1,1,0,1,0] [] n [(1,.d (.list 5 v0)),(2,.d (.list 1 v1)),(6,.var 384 0),(8,.var 512 0),(9,.d (.int .i64 v2))] [(384,Blk.var [AV.own 200096 0,AV.own 200097 0,.d (.int .i64 v3),AV.own 200099 0]),(200096,Blk.arr 112 3 0 v4 (0,0,0)),(200097,Blk.arr 114 2 0 v5 (1,0,0)),(200099,Blk.arr 83 2 0 v6 (0,0,0)),(512,Blk.var [.d (.list 3 v7),.d (.list 2 v8),.d (.int .i64 v9),AV.own 200131 0]),(200131,Blk.arr 83 2 0 v10 (0,0,0))]
theorem F36.L5.succ (k:Nat) (call:zi) (n:Nat) (v0 v1:Ovi.Rows) (v2 v3:Int) (v4 v5 v6:List (List D)) (v7 v8:Ovi.Rows) (v9:Int) (v10:List (List D)):F36.L5 k call (n+1) v0 v1 v2 v3 v4 v5 v6 v7 v8 v9 v10=ite' (decide (v2 < 60)) (zb (call 69 [.agg [.d (.list 3 v7),.d (.list 2 v8)],.d (.list 5 v0)]) fun r18=>zc (resO 83 2 1 false 1 r18 0 0) fun l19=>ite' (((List.length l19):Int)==0) (some ([(true,[.d (.list 3 v7),.d (.list 2 v8),.d (.int .i64 1),.row 83 2 v10]),(false,[.d (.bool true)])])) (ite' (decide (((List.length v1):Int) > 0)) (ite' (((List.length v1):Int)==0) none (ite' (inR (v2.tmod ((List.length v1):Int)) (List.length v1)) (zg (zm .i64 v1 (v2.tmod ((List.length v1):Int)).toNat 0) fun n20=>zb (call 70 [.d (.int .i64 n20),.d (.int .i64 ((List.length l19):Int))]) fun r21=>zg (resI .i64 1 false 1 r21 0 0) fun n22=>ite' (inR n22 (List.length l19)) (zg (zm .i64 l19 n22.toNat 0) fun n23=>ite' (inR n23 (List.length v0)) (zc (zw 2 v0 n23.toNat 0) fun l24=>zc (zw 2 v0 n23.toNat 1) fun l25=>zj (zan v0 n23.toNat 2) fun b26=>zg (zm .i64 v0 n23.toNat 3) fun n27=>zg (zm .i64 v0 n23.toNat 4) fun n28=>ite' (inR n22 (List.length l19)) (zc (zw 1 l19 n22.toNat 1) fun l29=>zb (call 71 [.agg [.d (.list 3 v7),.d (.list 2 v8)],.agg [.d (.list 2 l24),.d (.list 2 l25),.d (.bool b26),.d (.int .i64 n27),.d (.int .i64 n28)],.d (.list 1 l29)]) fun r30=>zc (resL 3 2 true 2 r30 0 0) fun l31=>zc (resL 2 2 true 2 r30 0 1) fun l32=>zg (resI .i64 2 false 1 r30 1 0) fun n33=>ite' (inR n22 (List.length l19)) (zg (zm .i64 l19 n22.toNat 0) fun n34=>zc (zw 1 l19 n22.toNat 1) fun l35=>ite' (fits (v10.length+[[D.int .i64 n34,D.list 1 l35]].length)) (ite' (n33 != 1) (some ([(true,[.d (.list 3 l31),.d (.list 2 l32),.d (.int .i64 n33),.row 83 2 (v10++[[D.int .i64 n34,D.list 1 l35]])]),(false,[.d (.bool true)])])) (F36.L5 k call n v0 v1 (IntKind.i64.wrap (v2+1)) v3 v4 v5 v6 l31 l32 v9 (v10++[[D.int .i64 n34,D.list 1 l35]]))) none) none) none) none) none) none)) (ite' (inR 0 (List.length l19)) (zg (zm .i64 l19 0 0) fun n20=>ite' (inR n20 (List.length v0)) (zc (zw 2 v0 n20.toNat 0) fun l21=>zc (zw 2 v0 n20.toNat 1) fun l22=>zj (zan v0 n20.toNat 2) fun b23=>zg (zm .i64 v0 n20.toNat 3) fun n24=>zg (zm .i64 v0 n20.toNat 4) fun n25=>ite' (inR 0 (List.length l19)) (zc (zw 1 l19 0 1) fun l26=>zb (call 71 [.agg [.d (.list 3 v7),.d (.list 2 v8)],.agg [.d (.list 2 l21),.d (.list 2 l22),.d (.bool b23),.d (.int .i64 n24),.d (.int .i64 n25)],.d (.list 1 l26)]) fun r27=>zc (resL 3 2 true 2 r27 0 0) fun l28=>zc (resL 2 2 true 2 r27 0 1) fun l29=>zg (resI .i64 2 false 1 r27 1 0) fun n30=>ite' (inR 0 (List.length l19)) (zg (zm .i64 l19 0 0) fun n31=>zc (zw 1 l19 0 1) fun l32=>ite' (fits (v10.length+[[D.int .i64 n31,D.list 1 l32]].length)) (ite' (n30 != 1) (some ([(true,[.d (.list 3 l28),.d (.list 2 l29),.d (.int .i64 n30),.row 83 2 (v10++[[D.int .i64 n31,D.list 1 l32]])]),(false,[.d (.bool true)])])) (F36.L5 k call n v0 v1 (IntKind.i64.wrap (v2+1)) v3 v4 v5 v6 l28 l29 v9 (v10++[[D.int .i64 n31,D.list 1 l32]]))) none) none) none) none) none))) (some ([(true,[.d (.list 3 v7),.d (.list 2 v8),.d (.int .i64 3),.row 83 2 v10]),(false,[.d (.bool true)])])):=by kernel_rfl
theorem F36.run (k:Nat) (a0_0 a0_1 a1 a2:Ovi.Rows):C (k+1) 36 [.agg [.d (.list 3 a0_0),.d (.list 2 a0_1)],.d (.list 5 a1),.d (.list 1 a2)]=zb ((C k) 58 [.agg [.d (.list 3 a0_0),.d (.list 2 a0_1)]]) fun r6=>zj (resB 1 false 1 r6 0 0) fun b7=>ite' (!b7) (some ([(true,[.nil,.nil,.d (.int .i64 0),.nil]),(false,[.d (.bool false)])])) (zb ((C k) 59 [.d (.list 3 a0_0),.d (.list 5 a1)]) fun r8=>zj (resB 1 false 1 r8 0 0) fun b9=>ite' (!b9) (some ([(true,[.nil,.nil,.d (.int .i64 0),.nil]),(false,[.d (.bool false)])])) (zb ((C k) 68 [.agg [.d (.list 3 a0_0),.d (.list 2 a0_1)]]) fun r10=>zc (resO 112 3 1 true 2 r10 0 0) fun l11=>zc (resF 114 2 1 1 true 2 r10 0 1) fun l12=>F36.L5 k (C k) k a1 a2 0 0 [] [] [] l11 l12 0 [])):=(crun k 36 (by kernel_rfl) Tryz.func36 rfl).trans (by kernel_rfl)
noncomputable def F37.L3 (k:Nat) (call:zi) (n:Nat) (v0:Ovi.Rows) (v1:Int) (v2:Ovi.Rows):Option Res:=zt P hs call 37 k Tryz.f37 [1,1,0,1,0] [] n [(0,.d (.list 3 v0)),(3,AV.own 100003 0),(4,.d (.int .i64 v1))] [(100003,Blk.arr 112 3 0 v2 (0,0,0))]
theorem F37.L3.succ (k:Nat) (call:zi) (n:Nat) (v0:Ovi.Rows) (v1:Int) (v2:Ovi.Rows):F37.L3 k call (n+1) v0 v1 v2=ite' (decide (v1 < ((List.length v0):Int))) (ite' (inR v1 (List.length v0)) (zbl (zbm v0 v1.toNat 0) fun s7=>zg (zm .i64 v0 v1.toNat 1) fun n8=>zj (zan v0 v1.toNat 2) fun b9=>zb (call 72 [.agg [.d (.str s7),.d (.int .i64 n8),.d (.bool b9)]]) fun r10=>zbl (resS 1 true 3 r10 0 0) fun s11=>zg (resI .i64 1 true 3 r10 0 1) fun n12=>zj (resB 1 true 3 r10 0 2) fun b13=>ite' (inR v1 (List.length v2)) (F37.L3 k call n v0 (IntKind.i64.wrap (v1+1)) (zai v2 v1.toNat 0 [D.str s11,D.int .i64 n12,D.bool b13])) none) none) (some ([(false,[.row 112 3 v2])])):=by kernel_rfl
theorem F37.run (k:Nat) (a0:Ovi.Rows):C (k+1) 37 [.d (.list 3 a0)]=ite' (((List.length a0):Int)==((List.length a0):Int)) (ite' (inM ((List.length a0):Int)) (F37.L3 k (C k) k a0 0 (zbi ((List.length a0):Int) [D.str ([]:List UInt8),D.int .i64 0,D.bool false])) none) none:=(crun k 37 (by kernel_rfl) Tryz.func37 rfl).trans (by kernel_rfl)
noncomputable def F38.L3 (k:Nat) (call:zi) (n:Nat) (v0:Ovi.Rows) (v1:Int) (v2:Ovi.Rows):Option Res:=zt P hs call 38 k Tryz.f38 [1,1,0,1,0] [] n [(0,.d (.list 2 v0)),(3,AV.own 100003 0),(4,.d (.int .i64 v1))] [(100003,Blk.arr 114 2 0 v2 (1,0,0))]
theorem F38.L3.succ (k:Nat) (call:zi) (n:Nat) (v0:Ovi.Rows) (v1:Int) (v2:Ovi.Rows):F38.L3 k call (n+1) v0 v1 v2=ite' (decide (v1 < ((List.length v0):Int))) (ite' (inR v1 (List.length v0)) (zg (zm .i64 v0 v1.toNat 0) fun n7=>zc (zw 1 v0 v1.toNat 1) fun l8=>zb (call 73 [.agg [.d (.int .i64 n7),.d (.list 1 l8)]]) fun r9=>zg (resI .i64 1 true 2 r9 0 0) fun n10=>zc (resO 3 1 1 true 2 r9 0 1) fun l11=>ite' (inR v1 (List.length v2)) (F38.L3 k call n v0 (IntKind.i64.wrap (v1+1)) (zai v2 v1.toNat 0 [D.int .i64 n10,D.list 1 l11])) none) none) (some ([(false,[.frow 114 2 1 v2])])):=by kernel_rfl
theorem F38.run (k:Nat) (a0:Ovi.Rows):C (k+1) 38 [.d (.list 2 a0)]=ite' (((List.length a0):Int)==((List.length a0):Int)) (ite' (inM ((List.length a0):Int)) (F38.L3 k (C k) k a0 0 (zbi ((List.length a0):Int) [D.int .i64 0,D.list 1 []])) none) none:=(crun k 38 (by kernel_rfl) Tryz.func38 rfl).trans (by kernel_rfl)
theorem F39.run (k:Nat) (a0_0 a0_1:Ovi.Rows) (a0_2:Bool) (a0_3 a0_4:Int):C (k+1) 39 [.agg [.d (.list 2 a0_0),.d (.list 2 a0_1),.d (.bool a0_2),.d (.int .i64 a0_3),.d (.int .i64 a0_4)]]=zb ((C k) 74 [.d (.list 2 a0_0)]) fun r7=>zc (resF 133 2 1 1 false 1 r7 0 0) fun l8=>zb ((C k) 74 [.d (.list 2 a0_1)]) fun r9=>zc (resF 133 2 1 1 false 1 r9 0 0) fun l10=>some ([(true,[.frow 133 2 1 l8,.frow 133 2 1 l10,.d (.bool a0_2),.d (.int .i64 a0_3),.d (.int .i64 a0_4)])]):=(crun k 39 (by kernel_rfl) Tryz.func39 rfl).trans (by kernel_rfl)
noncomputable def F40.L4 (k:Nat) (call:zi) (n:Nat) (v0:Ovi.Rows) (v1 v2:Int) (v3 v4:Ovi.Rows):Option Res:=zt P hs call 40 k Tryz.f40 [1,1,0,1,0] [] n [(1,.var 64 0),(16,.d (.list 2 v0)),(17,.d (.int .i64 v1)),(18,.d (.int .i64 v2))] [(64,Blk.var [.d (.list 3 v3),.d (.list 2 v4)])]
theorem F40.L4.succ (k:Nat) (call:zi) (n:Nat) (v0:Ovi.Rows) (v1 v2:Int) (v3 v4:Ovi.Rows):F40.L4 k call (n+1) v0 v1 v2 v3 v4=ite' (decide (v2 < v1)) (ite' (inR v2 (List.length v0)) (zg (zm .i64 v0 v2.toNat 0) fun n10=>zc (zw 1 v0 v2.toNat 1) fun l11=>zb (call 76 [.d (.list 3 v3),.agg [.d (.int .i64 n10),.d (.list 1 l11)]]) fun r12=>zj (resB 1 false 1 r12 0 0) fun b13=>ite' (!b13) (some ([(false,[.d (.bool false)])])) (ite' (decide (v2 > 0)) (ite' (inR (IntKind.i64.wrap (v2 - 1)) (List.length v4)) (zg (zm .i64 v4 (IntKind.i64.wrap (v2 - 1)).toNat 0) fun n14=>zc (zw 1 v4 (IntKind.i64.wrap (v2 - 1)).toNat 1) fun l15=>zb (call 77 [.agg [.d (.int .i64 n14),.d (.list 1 l15)],.agg [.d (.int .i64 n10),.d (.list 1 l11)]]) fun r16=>zg (resI .i64 1 false 1 r16 0 0) fun n17=>ite' (decide (n17 ≥ 0)) (some ([(false,[.d (.bool false)])])) (ite' (inR n10 (List.length v3)) (zj (zan v3 n10.toNat 2) fun b18=>ite' b18 (zb (call 78 [.agg [.d (.int .i64 n10),.d (.list 1 l11)]]) fun r19=>zc (resO 3 1 1 false 1 r19 0 0) fun l20=>ite' (decide (((List.length l20):Int) > 0)) (some ([(false,[.d (.bool false)])])) (F40.L4 k call n v0 v1 (IntKind.i64.wrap (v2+1)) v3 v4)) (F40.L4 k call n v0 v1 (IntKind.i64.wrap (v2+1)) v3 v4)) none)) none) (ite' (inR n10 (List.length v3)) (zj (zan v3 n10.toNat 2) fun b14=>ite' b14 (zb (call 78 [.agg [.d (.int .i64 n10),.d (.list 1 l11)]]) fun r15=>zc (resO 3 1 1 false 1 r15 0 0) fun l16=>ite' (decide (((List.length l16):Int) > 0)) (some ([(false,[.d (.bool false)])])) (F40.L4 k call n v0 v1 (IntKind.i64.wrap (v2+1)) v3 v4)) (F40.L4 k call n v0 v1 (IntKind.i64.wrap (v2+1)) v3 v4)) none))) none) (some ([(false,[.d (.bool true)])])):=by kernel_rfl
theorem F40.run (k:Nat) (a0_0 a0_1:Ovi.Rows):C (k+1) 40 [.agg [.d (.list 3 a0_0),.d (.list 2 a0_1)]]=zb ((C k) 75 [.d (.list 3 a0_0)]) fun r4=>zj (resB 1 false 1 r4 0 0) fun b5=>ite' (!b5) (some ([(false,[.d (.bool false)])])) (ite' (decide (((List.length a0_1):Int) > 30)) (some ([(false,[.d (.bool false)])])) (F40.L4 k (C k) k a0_1 (((List.length a0_1):Int)) 0 a0_0 a0_1)):=(crun k 40 (by kernel_rfl) Tryz.func40 rfl).trans (by kernel_rfl)
theorem F41.run (k:Nat) (a0 a1:Ovi.Rows):C (k+1) 41 [.d (.list 3 a0),.d (.list 5 a1)]=zb ((C k) 75 [.d (.list 3 a0)]) fun r4=>zj (resB 1 false 1 r4 0 0) fun b5=>ite' b5 (ite' (decide (((List.length a1):Int)≤5)) (zb ((C k) 79 [.d (.list 5 a1),.d (.fn 80 [[D.list 3 a0]])]) fun r6=>zj (resB 1 false 1 r6 0 0) fun b7=>some ([(false,[.d (.bool !b7)])])) (some ([(false,[.d (.bool false)])]))) (some ([(false,[.d (.bool false)])])):=(crun k 41 (by kernel_rfl) Tryz.func41 rfl).trans (by kernel_rfl)
theorem F42.run (k:Nat) (a0_0 a0_1:Ovi.Rows):C (k+1) 42 [.agg [.d (.list 3 a0_0),.d (.list 2 a0_1)]]=zb ((C k) 82 [.d (.list 3 a0_0)]) fun r4=>zc (resO 112 3 1 false 1 r4 0 0) fun l5=>zb ((C k) 83 [.d (.list 2 a0_1)]) fun r6=>zc (resF 114 2 1 1 false 1 r6 0 0) fun l7=>some ([(true,[.row 112 3 l5,.frow 114 2 1 l7])]):=(crun k 42 (by kernel_rfl) Tryz.func42 rfl).trans (by kernel_rfl)
noncomputable def F43.L3 (k:Nat) (call:zi) (n:Nat) (v0:Ovi.Rows) (v1 v2:Int) (v3 v4:Ovi.Rows) (v5:List (List D)):Option Res:=zt P hs call 43 k Tryz.f43 [1,1,0,1,0] [] n [(2,.var 128 0),(5,AV.own 100005 0),(11,.d (.list 5 v0)),(12,.d (.int .i64 v1)),(13,.d (.int .i64 v2))] [(128,Blk.var [.d (.list 3 v3),.d (.list 2 v4)]),(100005,Blk.arr 83 2 0 v5 (1,0,0))]
noncomputable def F43.L6 (k:Nat) (call:zi) (k3 n:Nat) (v0:Int) (v1:Ovi.Rows) (v2 v3 v4 v5:Int) (v6 v7:Ovi.Rows) (v8:List (List D)) (v9:Ovi.Rows) (v10:Nat):Option Res:=zt P hs call 43 k Tryz.f43 [1,1,0,1,0,0,1,1,0,0,1,1,0] [k3] n [(2,.var 128 0),(5,AV.own 100005 0),(6,.d (.int .i64 v0)),(11,.d (.list 5 v1)),(12,.d (.int .i64 v2)),(13,.d (.int .i64 v3)),(20,AV.own 100020 0),(21,.d (.int .i64 v4)),(22,.d (.int .i64 v5))] [(128,Blk.var [.d (.list 3 v6),.d (.list 2 v7)]),(100005,Blk.arr 83 2 0 v8 (1,0,0)),(100020,Blk.arr 27 1 0 v9 (1,v10,0))]
theorem F43.L3.succ (k:Nat) (call:zi) (n:Nat) (v0:Ovi.Rows) (v1 v2:Int) (v3 v4:Ovi.Rows) (v5:List (List D)):F43.L3 k call (n+1) v0 v1 v2 v3 v4 v5=ite' (decide (v2 < v1)) (ite' (inR v2 (List.length v0)) (zc (zw 2 v0 v2.toNat 0) fun l12=>zc (zw 2 v0 v2.toNat 1) fun l13=>zj (zan v0 v2.toNat 2) fun b14=>zg (zm .i64 v0 v2.toNat 3) fun n15=>zg (zm .i64 v0 v2.toNat 4) fun n16=>zb (call 84 [.agg [.d (.list 3 v3),.d (.list 2 v4)],.agg [.d (.list 2 l12),.d (.list 2 l13),.d (.bool b14),.d (.int .i64 n15),.d (.int .i64 n16)]]) fun r17=>zc (resF 27 1 1 1 false 1 r17 0 0) fun l18=>F43.L6 k call n k v2 v0 v1 v2 (((List.length l18):Int)) 0 v3 v4 v5 l18 0) none) (some ([(false,[.frow 83 2 1 v5])])):=by kernel_rfl
theorem F43.L6.succ (k:Nat) (call:zi) (k3 n:Nat) (v0:Int) (v1:Ovi.Rows) (v2 v3 v4 v5:Int) (v6 v7:Ovi.Rows) (v8:List (List D)) (v9:Ovi.Rows) (v10:Nat):F43.L6 k call k3 (n+1) v0 v1 v2 v3 v4 v5 v6 v7 v8 v9 v10=ite' (decide (v5 < v4)) (ite' (inR v5 (List.length v9)) (zc (zw 1 v9 v5.toNat 0) fun l18=>ite' (v10.ble v5.toNat) (ite' (fits (v8.length+[[D.int .i64 v0,D.list 1 l18]].length)) (F43.L6 k call k3 n v0 v1 v2 v3 v4 (IntKind.i64.wrap (v5+1)) v6 v7 (v8++[[D.int .i64 v0,D.list 1 l18]]) v9 ((v5.toNat+1,0).fst)) none) (ite' (fits (v8.length+[[D.int .i64 v0,D.list 1 l18]].length)) none none)) none) (F43.L3 k call k3 v1 v2 (IntKind.i64.wrap (v3+1)) v6 v7 v8):=by kernel_rfl
theorem F43.run (k:Nat) (a0_0 a0_1 a1:Ovi.Rows):C (k+1) 43 [.agg [.d (.list 3 a0_0),.d (.list 2 a0_1)],.d (.list 5 a1)]=F43.L3 k (C k) k a1 (((List.length a1):Int)) 0 a0_0 a0_1 []:=(crun k 43 (by kernel_rfl) Tryz.func43 rfl).trans (by kernel_rfl)
noncomputable def F44.L8 (k:Nat) (call:zi) (n:Nat) (v0 v1 v2:Int) (v3 v4:Ovi.Rows) (v5 v6:List (List D)) (v7 v8:Ovi.Rows) (v9:Bool) (v10 v11:Int) (v12 v13:Ovi.Rows):Option Res:=zt P hs call 44 k Tryz.f44 [1,1,1,1,1,0,1,0] [] n [(3,.var 192 0),(6,.var 384 0),(8,.var 512 0),(9,AV.own 100009 0),(10,.d (.int .i64 v0)),(47,AV.own 100047 0),(48,.d (.int .i64 v1)),(49,.d (.int .i64 v2))] [(192,Blk.var [.d (.list 3 v3),.d (.list 2 v4)]),(384,Blk.var [AV.own 200096 0,AV.own 200097 0]),(200096,Blk.arr 112 3 0 v5 (0,0,0)),(200097,Blk.arr 114 2 0 v6 (1,0,0)),(512,Blk.var [.d (.list 2 v7),.d (.list 2 v8),.d (.bool v9),.d (.int .i64 v10),.d (.int .i64 v11)]),(100009,Blk.arr 3 1 0 v12 (0,0,0)),(100047,Blk.arr 3 1 0 v13 (0,0,0))]
noncomputable def F44.L15 (k:Nat) (call:zi) (n:Nat) (v0:Ovi.Rows) (v1:Int) (v2:Ovi.Rows) (v3 v4:Int) (v5 v6:Ovi.Rows) (v7 v8:List (List D)) (v9 v10:Ovi.Rows):Option Res:=zt P hs call 44 k Tryz.f44 [1,1,1,1,1,1,1,0,1,0] [] n [(3,.var 192 0),(6,.var 384 0),(9,.d (.list 1 v0)),(10,.d (.int .i64 v1)),(13,.var 832 0),(64,.d (.list 2 v2)),(65,.d (.int .i64 v3)),(66,.d (.int .i64 v4))] [(192,Blk.var [.d (.list 3 v5),.d (.list 2 v6)]),(384,Blk.var [AV.own 200096 0,AV.own 200097 0]),(200096,Blk.arr 112 3 0 v7 (0,0,0)),(200097,Blk.arr 114 2 0 v8 (1,0,0)),(832,Blk.var [AV.own 200208 0,AV.own 200209 0]),(200208,Blk.arr 112 3 0 v9 (0,0,0)),(200209,Blk.arr 114 2 0 v10 (1,0,0))]
theorem F44.L8.succ (k:Nat) (call:zi) (n:Nat) (v0 v1 v2:Int) (v3 v4:Ovi.Rows) (v5 v6:List (List D)) (v7 v8:Ovi.Rows) (v9:Bool) (v10 v11:Int) (v12 v13:Ovi.Rows):F44.L8 k call (n+1) v0 v1 v2 v3 v4 v5 v6 v7 v8 v9 v10 v11 v12 v13=ite' (decide (v2 < v1)) (ite' (inR v2 (List.length v13)) (zg (zm .i64 v13 v2.toNat 0) fun n25=>zb (call 90 [.d (.int .i64 v0)]) fun r26=>zg (resI .i64 1 false 1 r26 0 0) fun n27=>ite' (inR n25 (List.length v12)) (F44.L8 k call n (IntKind.i64.wrap (v0+1)) v1 (IntKind.i64.wrap (v2+1)) v3 v4 v5 v6 v7 v8 v9 v10 v11 (zai v12 n25.toNat 0 [D.int .i64 n27]) v13) none) none) (zb (call 42 [.agg [.d (.list 3 v3),.d (.list 2 v4)]]) fun r25=>zc (resO 112 3 1 true 2 r25 0 0) fun l26=>zc (resF 114 2 1 1 true 2 r25 0 1) fun l27=>F44.L15 k call k v12 v0 v8 (((List.length v8):Int)) 0 v3 v4 v5 v6 l26 l27):=by kernel_rfl
theorem F44.L15.succ (k:Nat) (call:zi) (n:Nat) (v0:Ovi.Rows) (v1:Int) (v2:Ovi.Rows) (v3 v4:Int) (v5 v6:Ovi.Rows) (v7 v8:List (List D)) (v9 v10:Ovi.Rows):F44.L15 k call (n+1) v0 v1 v2 v3 v4 v5 v6 v7 v8 v9 v10=ite' (decide (v4 < v3)) (ite' (inR v4 (List.length v2)) (zg (zm .i64 v2 v4.toNat 0) fun n22=>zc (zw 1 v2 v4.toNat 1) fun l23=>zb (call 91 [.agg [.d (.int .i64 n22),.d (.list 1 l23)],.d (.list 1 v0)]) fun r24=>zg (resI .i64 2 true 2 r24 0 0) fun n25=>zc (resO 3 1 2 true 2 r24 0 1) fun l26=>zj (resB 2 false 1 r24 1 0) fun b27=>ite' (fits (List.length v10+[[D.int .i64 n25,D.list 1 l26]].length)) (F44.L15 k call n v0 v1 v2 v3 (IntKind.i64.wrap (v4+1)) v5 v6 v7 v8 v9 (v10++[[D.int .i64 n25,D.list 1 l26]])) none) none) (zb (call 92 [.d (.list 2 v10)]) fun r22=>zc (resF 114 2 1 1 false 1 r22 0 0) fun l23=>ite' (decide (v1 > 40)) (zb (call 42 [.agg [.d (.list 3 v5),.d (.list 2 v6)]]) fun r24=>zc (resO 112 3 1 true 2 r24 0 0) fun l25=>zc (resF 114 2 1 1 true 2 r24 0 1) fun l26=>some ([(true,[.row 112 3 l25,.frow 114 2 1 l26]),(false,[.d (.int .i64 3)])])) (ite' (decide (((List.length l23):Int) > 30)) (zb (call 42 [.agg [.d (.list 3 v5),.d (.list 2 v6)]]) fun r24=>zc (resO 112 3 1 true 2 r24 0 0) fun l25=>zc (resF 114 2 1 1 true 2 r24 0 1) fun l26=>some ([(true,[.row 112 3 l25,.frow 114 2 1 l26]),(false,[.d (.int .i64 3)])])) (some ([(true,[.row 112 3 v9,.frow 114 2 1 l23]),(false,[.d (.int .i64 1)])])))):=by kernel_rfl
theorem F44.run (k:Nat) (a0_0 a0_1 a1_0 a1_1:Ovi.Rows) (a1_2:Bool) (a1_3 a1_4:Int) (a2:Ovi.Rows):C (k+1) 44 [.agg [.d (.list 3 a0_0),.d (.list 2 a0_1)],.agg [.d (.list 2 a1_0),.d (.list 2 a1_1),.d (.bool a1_2),.d (.int .i64 a1_3),.d (.int .i64 a1_4)],.d (.list 1 a2)]=zb ((C k) 85 [.agg [.d (.list 3 a0_0),.d (.list 2 a0_1)],.agg [.d (.list 2 a1_0),.d (.list 2 a1_1),.d (.bool a1_2),.d (.int .i64 a1_3),.d (.int .i64 a1_4)],.d (.list 1 a2)]) fun r10=>zj (resB 1 false 1 r10 0 0) fun b11=>ite' (!b11) (zb ((C k) 42 [.agg [.d (.list 3 a0_0),.d (.list 2 a0_1)]]) fun r12=>zc (resO 112 3 1 true 2 r12 0 0) fun l13=>zc (resF 114 2 1 1 true 2 r12 0 1) fun l14=>some ([(true,[.row 112 3 l13,.frow 114 2 1 l14]),(false,[.d (.int .i64 0)])])) (ite' a1_2 (ite' (inR a1_3 (List.length a2)) (zg (zm .i64 a2 a1_3.toNat 0) fun n12=>ite' (inR a1_4 (List.length a2)) (zg (zm .i64 a2 a1_4.toNat 0) fun n13=>zb ((C k) 86 [.agg [.d (.list 3 a0_0),.d (.list 2 a0_1)],.d (.int .i64 n12),.d (.int .i64 n13)]) fun r14=>zc (resO 112 3 2 true 2 r14 0 0) fun l15=>zc (resF 114 2 1 2 true 2 r14 0 1) fun l16=>zg (resI .i64 2 false 1 r14 1 0) fun n17=>some ([(true,[.row 112 3 l15,.frow 114 2 1 l16]),(false,[.d (.int .i64 n17)])])) none) none) (zb ((C k) 87 [.d (.list 1 a2)]) fun r12=>zc (resO 3 1 1 false 1 r12 0 0) fun l13=>zb ((C k) 88 [.agg [.d (.list 3 a0_0),.d (.list 2 a0_1)]]) fun r14=>zg (resI .i64 1 false 1 r14 0 0) fun n15=>zb ((C k) 89 [.agg [.d (.list 2 a1_0),.d (.list 2 a1_1),.d (.bool a1_2),.d (.int .i64 a1_3),.d (.int .i64 a1_4)]]) fun r16=>zc (resO 3 1 1 false 1 r16 0 0) fun l17=>F44.L8 k (C k) k n15 (((List.length l17):Int)) 0 a0_0 a0_1 [] [] a1_0 a1_1 a1_2 a1_3 a1_4 l13 l17)):=(crun k 44 (by kernel_rfl) Tryz.func44 rfl).trans (by kernel_rfl)
noncomputable def F45.L4 (k:Nat) (call:zi) (n:Nat) (v0 v1:Ovi.Rows) (v2:Int):Option Res:=zt P hs call 45 k Tryz.f45 [1,1,0,1,0] [] n [(0,.d (.list 2 v0)),(1,.d (.list 2 v1)),(5,.d (.int .i64 v2))] []
theorem F45.L4.succ (k:Nat) (call:zi) (n:Nat) (v0 v1:Ovi.Rows) (v2:Int):F45.L4 k call (n+1) v0 v1 v2=ite' (decide (v2 < ((List.length v0):Int))) (ite' (inR v2 (List.length v0)) (zg (zm .i64 v0 v2.toNat 0) fun n8=>zc (zw 1 v0 v2.toNat 1) fun l9=>ite' (inR v2 (List.length v1)) (zg (zm .i64 v1 v2.toNat 0) fun n10=>zc (zw 1 v1 v2.toNat 1) fun l11=>zb (call 93 [.agg [.d (.int .i64 n8),.d (.list 1 l9)],.agg [.d (.int .i64 n10),.d (.list 1 l11)]]) fun r12=>zj (resB 1 false 1 r12 0 0) fun b13=>ite' (!b13) (some ([(false,[.d (.bool false)])])) (F45.L4 k call n v0 v1 (IntKind.i64.wrap (v2+1)))) none) none) (some ([(false,[.d (.bool true)])])):=by kernel_rfl
theorem F45.run (k:Nat) (a0 a1:Ovi.Rows):C (k+1) 45 [.d (.list 2 a0),.d (.list 2 a1)]=ite' (((List.length a0):Int) != ((List.length a1):Int)) (some ([(false,[.d (.bool false)])])) (F45.L4 k (C k) k a0 a1 0):=(crun k 45 (by kernel_rfl) Tryz.func45 rfl).trans (by kernel_rfl)
noncomputable def F46.L4 (k:Nat) (call:zi) (n:Nat) (v0 v1:Ovi.Rows) (v2:Int):Option Res:=zt P hs call 46 k Tryz.f46 [1,1,0,1,0] [] n [(0,.d (.list 3 v0)),(1,.d (.list 3 v1)),(5,.d (.int .i64 v2))] []
theorem F46.L4.succ (k:Nat) (call:zi) (n:Nat) (v0 v1:Ovi.Rows) (v2:Int):F46.L4 k call (n+1) v0 v1 v2=ite' (decide (v2 < ((List.length v0):Int))) (ite' (inR v2 (List.length v0)) (zbl (zbm v0 v2.toNat 0) fun s8=>zg (zm .i64 v0 v2.toNat 1) fun n9=>zj (zan v0 v2.toNat 2) fun b10=>ite' (inR v2 (List.length v1)) (zbl (zbm v1 v2.toNat 0) fun s11=>zg (zm .i64 v1 v2.toNat 1) fun n12=>zj (zan v1 v2.toNat 2) fun b13=>zb (call 94 [.agg [.d (.str s8),.d (.int .i64 n9),.d (.bool b10)],.agg [.d (.str s11),.d (.int .i64 n12),.d (.bool b13)]]) fun r14=>zj (resB 1 false 1 r14 0 0) fun b15=>ite' (!b15) (some ([(false,[.d (.bool false)])])) (F46.L4 k call n v0 v1 (IntKind.i64.wrap (v2+1)))) none) none) (some ([(false,[.d (.bool true)])])):=by kernel_rfl
theorem F46.run (k:Nat) (a0 a1:Ovi.Rows):C (k+1) 46 [.d (.list 3 a0),.d (.list 3 a1)]=ite' (((List.length a0):Int) != ((List.length a1):Int)) (some ([(false,[.d (.bool false)])])) (F46.L4 k (C k) k a0 a1 0):=(crun k 46 (by kernel_rfl) Tryz.func46 rfl).trans (by kernel_rfl)
noncomputable def F47.L4 (k:Nat) (call:zi) (n:Nat) (v0 v1:Ovi.Rows) (v2:Int):Option Res:=zt P hs call 47 k Tryz.f47 [1,1,0,1,0] [] n [(0,.d (.list 2 v0)),(1,.d (.list 2 v1)),(5,.d (.int .i64 v2))] []
theorem F47.L4.succ (k:Nat) (call:zi) (n:Nat) (v0 v1:Ovi.Rows) (v2:Int):F47.L4 k call (n+1) v0 v1 v2=ite' (decide (v2 < ((List.length v0):Int))) (ite' (inR v2 (List.length v0)) (zg (zm .i64 v0 v2.toNat 0) fun n8=>zc (zw 1 v0 v2.toNat 1) fun l9=>ite' (inR v2 (List.length v1)) (zg (zm .i64 v1 v2.toNat 0) fun n10=>zc (zw 1 v1 v2.toNat 1) fun l11=>zb (call 95 [.agg [.d (.int .i64 n8),.d (.list 1 l9)],.agg [.d (.int .i64 n10),.d (.list 1 l11)]]) fun r12=>zj (resB 1 false 1 r12 0 0) fun b13=>ite' (!b13) (some ([(false,[.d (.bool false)])])) (F47.L4 k call n v0 v1 (IntKind.i64.wrap (v2+1)))) none) none) (some ([(false,[.d (.bool true)])])):=by kernel_rfl
theorem F47.run (k:Nat) (a0 a1:Ovi.Rows):C (k+1) 47 [.d (.list 2 a0),.d (.list 2 a1)]=ite' (((List.length a0):Int) != ((List.length a1):Int)) (some ([(false,[.d (.bool false)])])) (F47.L4 k (C k) k a0 a1 0):=(crun k 47 (by kernel_rfl) Tryz.func47 rfl).trans (by kernel_rfl)
theorem F48.run (k:Nat) (a0_0 a0_1:Ovi.Rows) (a0_2:Bool) (a0_3 a0_4:Int) (a1_0 a1_1:Ovi.Rows) (a1_2:Bool) (a1_3 a1_4:Int):C (k+1) 48 [.agg [.d (.list 2 a0_0),.d (.list 2 a0_1),.d (.bool a0_2),.d (.int .i64 a0_3),.d (.int .i64 a0_4)],.agg [.d (.list 2 a1_0),.d (.list 2 a1_1),.d (.bool a1_2),.d (.int .i64 a1_3),.d (.int .i64 a1_4)]]=zb ((C k) 96 [.d (.list 2 a0_0),.d (.list 2 a1_0)]) fun r12=>zj (resB 1 false 1 r12 0 0) fun b13=>ite' (!b13) (some ([(false,[.d (.bool false)])])) (zb ((C k) 96 [.d (.list 2 a0_1),.d (.list 2 a1_1)]) fun r14=>zj (resB 1 false 1 r14 0 0) fun b15=>ite' (!b15) (some ([(false,[.d (.bool false)])])) (ite' (!a0_2==a1_2) (some ([(false,[.d (.bool false)])])) (ite' (a0_3 != a1_3) (some ([(false,[.d (.bool false)])])) (ite' (a0_4 != a1_4) (some ([(false,[.d (.bool false)])])) (some ([(false,[.d (.bool true)])])))))):=(crun k 48 (by kernel_rfl) Tryz.func48 rfl).trans (by kernel_rfl)
theorem F53.run (k:Nat) (a0_0 a0_1:Ovi.Rows) (a1:Int):C (k+1) 53 [.agg [.d (.list 3 a0_0),.d (.list 2 a0_1)],.d (.int .i64 a1)]=zb ((C k) 98 [.d (.list 3 a0_0),.d (.int .i64 a1)]) fun r5=>zg (resI .i64 1 false 1 r5 0 0) fun n6=>ite' (decide (n6 < 0)) (some ([(false,[.d (.int .i64 (-1))])])) (zb ((C k) 99 [.d (.list 2 a0_1),.d (.int .i64 n6)]) fun r7=>zg (resI .i64 1 false 1 r7 0 0) fun n8=>ite' (decide (n8 < 0)) (some ([(false,[.d (.int .i64 (-1))])])) (some ([(false,[.d (.int .i64 n8)])]))):=(crun k 53 (by kernel_rfl) Tryz.func53 rfl).trans (by kernel_rfl)
noncomputable def F54.L2 (k:Nat) (call:zi) (n:Nat) (v0:Ovi.Rows) (v1 v2:Int):Option Res:=zt P hs call 54 k Tryz.f54 [1,0,1,0] [] n [(0,.d (.list 2 v0)),(1,.d (.int .i64 v1)),(5,.d (.int .i64 v2))] []
theorem F54.L2.succ (k:Nat) (call:zi) (n:Nat) (v0:Ovi.Rows) (v1 v2:Int):F54.L2 k call (n+1) v0 v1 v2=ite' (decide (v2 < ((List.length v0):Int))) (ite' (inR v2 (List.length v0)) (zg (zm .i64 v0 v2.toNat 0) fun n8=>ite' (n8 != v1) (some ([(false,[.d (.int .i64 (-1))])])) (ite' (inR v2 (List.length v0)) (zc (zw 1 v0 v2.toNat 1) fun l9=>zb (call 64 [.d (.list 1 l9),.d (.int .i64 (IntKind.i64.wrap (v1+1)))]) fun r10=>zg (resI .i64 1 false 1 r10 0 0) fun n11=>ite' (decide (n11 < 0)) (some ([(false,[.d (.int .i64 (-1))])])) (F54.L2 k call n v0 n11 (IntKind.i64.wrap (v2+1)))) none)) none) (some ([(false,[.d (.int .i64 v1)])])):=by kernel_rfl
theorem F54.run (k:Nat) (a0:Ovi.Rows) (a1:Int):C (k+1) 54 [.d (.list 2 a0),.d (.int .i64 a1)]=F54.L2 k (C k) k a0 a1 0:=(crun k 54 (by kernel_rfl) Tryz.func54 rfl).trans (by kernel_rfl)
noncomputable def F58.L2 (k:Nat) (call:zi) (n:Nat) (v0:Int) (v1 v2:Ovi.Rows):Option Res:=zt P hs call 58 k Tryz.f58 [1,0,1,0] [] n [(1,.var 64 0),(3,.d (.int .i64 v0))] [(64,Blk.var [.d (.list 3 v1),.d (.list 2 v2)])]
theorem F58.L2.succ (k:Nat) (call:zi) (n:Nat) (v0:Int) (v1 v2:Ovi.Rows):F58.L2 k call (n+1) v0 v1 v2=ite' (decide (v0 < ((List.length v2):Int))) (ite' (inR v0 (List.length v2)) (zg (zm .i64 v2 v0.toNat 0) fun n8=>zc (zw 1 v2 v0.toNat 1) fun l9=>zb (call 104 [.d (.list 3 v1),.agg [.d (.int .i64 n8),.d (.list 1 l9)]]) fun r10=>zj (resB 1 false 1 r10 0 0) fun b11=>ite' (!b11) (some ([(false,[.d (.bool false)])])) (ite' (decide (v0 > 0)) (ite' (inR (IntKind.i64.wrap (v0 - 1)) (List.length v2)) (zg (zm .i64 v2 (IntKind.i64.wrap (v0 - 1)).toNat 0) fun n12=>zc (zw 1 v2 (IntKind.i64.wrap (v0 - 1)).toNat 1) fun l13=>zb (call 105 [.agg [.d (.int .i64 n12),.d (.list 1 l13)],.agg [.d (.int .i64 n8),.d (.list 1 l9)]]) fun r14=>zg (resI .i64 1 false 1 r14 0 0) fun n15=>ite' (decide (n15 ≥ 0)) (some ([(false,[.d (.bool false)])])) (ite' (inR n8 (List.length v1)) (zj (zan v1 n8.toNat 2) fun b16=>ite' b16 (zb (call 106 [.agg [.d (.int .i64 n8),.d (.list 1 l9)]]) fun r17=>zc (resL 1 1 false 1 r17 0 0) fun l18=>ite' (decide (((List.length l18):Int) > 0)) (some ([(false,[.d (.bool false)])])) (F58.L2 k call n (IntKind.i64.wrap (v0+1)) v1 v2)) (F58.L2 k call n (IntKind.i64.wrap (v0+1)) v1 v2)) none)) none) (ite' (inR n8 (List.length v1)) (zj (zan v1 n8.toNat 2) fun b12=>ite' b12 (zb (call 106 [.agg [.d (.int .i64 n8),.d (.list 1 l9)]]) fun r13=>zc (resL 1 1 false 1 r13 0 0) fun l14=>ite' (decide (((List.length l14):Int) > 0)) (some ([(false,[.d (.bool false)])])) (F58.L2 k call n (IntKind.i64.wrap (v0+1)) v1 v2)) (F58.L2 k call n (IntKind.i64.wrap (v0+1)) v1 v2)) none))) none) (zb (call 107 [.d (.list 3 v1)]) fun r8=>zj (resB 1 false 1 r8 0 0) fun b9=>ite' b9 (some ([(false,[.d (.bool (decide (((List.length v2):Int)≤30)))])])) (some ([(false,[.d (.bool false)])]))):=by kernel_rfl
theorem F58.run (k:Nat) (a0_0 a0_1:Ovi.Rows):C (k+1) 58 [.agg [.d (.list 3 a0_0),.d (.list 2 a0_1)]]=F58.L2 k (C k) k 0 a0_0 a0_1:=(crun k 58 (by kernel_rfl) Tryz.func58 rfl).trans (by kernel_rfl)
noncomputable def F59.L2 (k:Nat) (call:zi) (n:Nat) (v0 v1:Ovi.Rows) (v2:Int):Option Res:=zt P hs call 59 k Tryz.f59 [1,0,1,0] [] n [(0,.d (.list 3 v0)),(1,.d (.list 5 v1)),(5,.d (.int .i64 v2))] []
theorem F59.L2.succ (k:Nat) (call:zi) (n:Nat) (v0 v1:Ovi.Rows) (v2:Int):F59.L2 k call (n+1) v0 v1 v2=ite' (decide (v2 < ((List.length v1):Int))) (ite' (inR v2 (List.length v1)) (zc (zw 2 v1 v2.toNat 0) fun l8=>zc (zw 2 v1 v2.toNat 1) fun l9=>zj (zan v1 v2.toNat 2) fun b10=>zg (zm .i64 v1 v2.toNat 3) fun n11=>zg (zm .i64 v1 v2.toNat 4) fun n12=>zb (call 108 [.d (.list 3 v0),.agg [.d (.list 2 l8),.d (.list 2 l9),.d (.bool b10),.d (.int .i64 n11),.d (.int .i64 n12)]]) fun r13=>zj (resB 1 false 1 r13 0 0) fun b14=>ite' (!b14) (some ([(false,[.d (.bool false)])])) (F59.L2 k call n v0 v1 (IntKind.i64.wrap (v2+1)))) none) (zb (call 107 [.d (.list 3 v0)]) fun r8=>zj (resB 1 false 1 r8 0 0) fun b9=>ite' b9 (some ([(false,[.d (.bool (decide (((List.length v1):Int)≤5)))])])) (some ([(false,[.d (.bool false)])]))):=by kernel_rfl
theorem F59.run (k:Nat) (a0 a1:Ovi.Rows):C (k+1) 59 [.d (.list 3 a0),.d (.list 5 a1)]=F59.L2 k (C k) k a0 a1 0:=(crun k 59 (by kernel_rfl) Tryz.func59 rfl).trans (by kernel_rfl)
noncomputable def F64.L2 (k:Nat) (call:zi) (n:Nat) (v0:Ovi.Rows) (v1 v2:Int):Option Res:=zt P hs call 64 k Tryz.f64 [1,0,1,0] [] n [(0,.d (.list 1 v0)),(1,.d (.int .i64 v1)),(5,.d (.int .i64 v2))] []
theorem F64.L2.succ (k:Nat) (call:zi) (n:Nat) (v0:Ovi.Rows) (v1 v2:Int):F64.L2 k call (n+1) v0 v1 v2=ite' (decide (v2 < ((List.length v0):Int))) (ite' (inR v2 (List.length v0)) (zg (zm .i64 v0 v2.toNat 0) fun n8=>ite' (n8 != v1) (some ([(false,[.d (.int .i64 (-1))])])) (F64.L2 k call n v0 (IntKind.i64.wrap (v1+1)) (IntKind.i64.wrap (v2+1)))) none) (some ([(false,[.d (.int .i64 v1)])])):=by kernel_rfl
theorem F64.run (k:Nat) (a0:Ovi.Rows) (a1:Int):C (k+1) 64 [.d (.list 1 a0),.d (.int .i64 a1)]=F64.L2 k (C k) k a0 a1 0:=(crun k 64 (by kernel_rfl) Tryz.func64 rfl).trans (by kernel_rfl)
theorem F65.run (k:Nat) (a0_0:List UInt8) (a0_1:Int) (a0_2:Bool) (a1:Int):C (k+1) 65 [.agg [.d (.str a0_0),.d (.int .i64 a0_1),.d (.bool a0_2)],.d (.int .i64 a1)]=ite' (decide (IntKind.i64.wrap (a1 - (↑a0_0.length:Int)) < 0)) (some ([(false,[.d (.int .i64 (-1))])])) (some ([(false,[.d (.int .i64 (IntKind.i64.wrap (a1 - (↑a0_0.length:Int))))])])):=(crun k 65 (by kernel_rfl) Tryz.func65 rfl).trans (by kernel_rfl)
theorem F66.run (k:Nat) (a0_0:Int) (a0_1:Ovi.Rows) (a1:Int):C (k+1) 66 [.agg [.d (.int .i64 a0_0),.d (.list 1 a0_1)],.d (.int .i64 a1)]=zb ((C k) 100 [.d (.list 1 a0_1),.d (.int .i64 a1)]) fun r5=>zg (resI .i64 1 false 1 r5 0 0) fun n6=>ite' (decide (n6 < 0)) (some ([(false,[.d (.int .i64 (-1))])])) (some ([(false,[.d (.int .i64 n6)])])):=(crun k 66 (by kernel_rfl) Tryz.func66 rfl).trans (by kernel_rfl)
noncomputable def F67.L5 (k:Nat) (call:zi) (n:Nat) (v0:Ovi.Rows) (v1 v2:Int):Option Res:=zt P hs call 67 k Tryz.f67 [1,1,1,0,1,0] [] n [(0,.d (.list 2 v0)),(1,.d (.int .i64 v1)),(5,.d (.int .i64 v2))] []
theorem F67.L5.succ (k:Nat) (call:zi) (n:Nat) (v0:Ovi.Rows) (v1 v2:Int):F67.L5 k call (n+1) v0 v1 v2=ite' (decide (v2 < ((List.length v0):Int))) (ite' (inR v2 (List.length v0)) (zg (zm .i64 v0 v2.toNat 0) fun n8=>zc (zw 1 v0 v2.toNat 1) fun l9=>zb (call 115 [.agg [.d (.int .i64 n8),.d (.list 1 l9)],.d (.int .i64 v1)]) fun r10=>zg (resI .i64 1 false 1 r10 0 0) fun n11=>ite' (decide (n11 < 0)) (some ([(false,[.d (.int .i64 (-1))])])) (F67.L5 k call n v0 n11 (IntKind.i64.wrap (v2+1)))) none) (some ([(false,[.d (.int .i64 v1)])])):=by kernel_rfl
theorem F67.run (k:Nat) (a0:Ovi.Rows) (a1:Int):C (k+1) 67 [.d (.list 2 a0),.d (.int .i64 a1)]=ite' (decide (IntKind.i64.wrap (a1 - ((List.length a0):Int)) < 0)) (some ([(false,[.d (.int .i64 (-1))])])) (F67.L5 k (C k) k a0 (IntKind.i64.wrap (a1 - ((List.length a0):Int))) 0):=(crun k 67 (by kernel_rfl) Tryz.func67 rfl).trans (by kernel_rfl)
noncomputable def F68.L3 (k:Nat) (call:zi) (n:Nat) (v0:Int) (v1 v2:Ovi.Rows) (v3 v4:List (List D)) (v5:Ovi.Rows) (v6:List (List D)):Option Res:=zt P hs call 68 k Tryz.f68 [1,1,0,1,0] [] n [(1,.var 64 0),(2,.var 128 0),(3,.var 192 0),(4,.d (.int .i64 v0))] [(64,Blk.var [.d (.list 3 v1),.d (.list 2 v2)]),(128,Blk.var [AV.own 200032 0,AV.own 200033 0]),(200032,Blk.arr 112 3 0 v3 (0,0,0)),(200033,Blk.arr 114 2 0 v4 (1,0,0)),(192,Blk.var [AV.own 200048 0,AV.own 200049 0]),(200048,Blk.arr 112 3 0 v5 (0,0,0)),(200049,Blk.arr 114 2 0 v6 (1,0,0))]
theorem F68.L3.succ (k:Nat) (call:zi) (n:Nat) (v0:Int) (v1 v2:Ovi.Rows) (v3 v4:List (List D)) (v5:Ovi.Rows) (v6:List (List D)):F68.L3 k call (n+1) v0 v1 v2 v3 v4 v5 v6=ite' (decide (v0 < ((List.length v2):Int))) (ite' (inR v0 (List.length v2)) (zg (zm .i64 v2 v0.toNat 0) fun n12=>zc (zw 1 v2 v0.toNat 1) fun l13=>zb (call 116 [.agg [.d (.int .i64 n12),.d (.list 1 l13)]]) fun r14=>zg (resI .i64 1 true 2 r14 0 0) fun n15=>zc (resO 3 1 1 true 2 r14 0 1) fun l16=>ite' (fits (v6.length+[[D.int .i64 n15,D.list 1 l16]].length)) (F68.L3 k call n (IntKind.i64.wrap (v0+1)) v1 v2 v3 v4 v5 (v6++[[D.int .i64 n15,D.list 1 l16]])) none) none) (some ([(true,[.row 112 3 v5,.frow 114 2 1 v6])])):=by kernel_rfl
theorem F68.run (k:Nat) (a0_0 a0_1:Ovi.Rows):C (k+1) 68 [.agg [.d (.list 3 a0_0),.d (.list 2 a0_1)]]=ite' (fits (List.length a0_0)) (F68.L3 k (C k) k 0 a0_0 a0_1 [] [] a0_0 []) none:=(crun k 68 (by kernel_rfl) Tryz.func68 rfl).trans (by kernel_rfl)
noncomputable def F69.L3 (k:Nat) (call:zi) (n:Nat) (v0:Ovi.Rows) (v1:Int) (v2 v3:Ovi.Rows) (v4:List (List D)):Option Res:=zt P hs call 69 k Tryz.f69 [1,1,0,1,0] [] n [(1,.d (.list 5 v0)),(2,.var 128 0),(5,AV.own 100005 0),(6,.d (.int .i64 v1))] [(128,Blk.var [.d (.list 3 v2),.d (.list 2 v3)]),(100005,Blk.arr 83 2 0 v4 (0,0,0))]
noncomputable def F69.L7 (k:Nat) (call:zi) (k3 n:Nat) (v0:Ovi.Rows) (v1 v2:Int) (v3 v4:Ovi.Rows) (v5:List (List D)) (v6:Ovi.Rows):Option Res:=zt P hs call 69 k Tryz.f69 [1,1,0,1,0,0,1,0,0,1,1,0] [k3] n [(1,.d (.list 5 v0)),(2,.var 128 0),(5,AV.own 100005 0),(6,.d (.int .i64 v1)),(7,AV.own 100007 0),(8,.d (.int .i64 v2))] [(128,Blk.var [.d (.list 3 v3),.d (.list 2 v4)]),(100005,Blk.arr 83 2 0 v5 (0,0,0)),(100007,Blk.arr 27 1 0 v6 (0,0,0))]
theorem F69.L3.succ (k:Nat) (call:zi) (n:Nat) (v0:Ovi.Rows) (v1:Int) (v2 v3:Ovi.Rows) (v4:List (List D)):F69.L3 k call (n+1) v0 v1 v2 v3 v4=ite' (decide (v1 < ((List.length v0):Int))) (ite' (inR v1 (List.length v0)) (zc (zw 2 v0 v1.toNat 0) fun l11=>zc (zw 2 v0 v1.toNat 1) fun l12=>zj (zan v0 v1.toNat 2) fun b13=>zg (zm .i64 v0 v1.toNat 3) fun n14=>zg (zm .i64 v0 v1.toNat 4) fun n15=>zb (call 117 [.agg [.d (.list 3 v2),.d (.list 2 v3)],.agg [.d (.list 2 l11),.d (.list 2 l12),.d (.bool b13),.d (.int .i64 n14),.d (.int .i64 n15)]]) fun r16=>zc (resO 27 1 1 false 1 r16 0 0) fun l17=>F69.L7 k call n k v0 v1 0 v2 v3 v4 l17) none) (some ([(false,[.row 83 2 v4])])):=by kernel_rfl
theorem F69.L7.succ (k:Nat) (call:zi) (k3 n:Nat) (v0:Ovi.Rows) (v1 v2:Int) (v3 v4:Ovi.Rows) (v5:List (List D)) (v6:Ovi.Rows):F69.L7 k call k3 (n+1) v0 v1 v2 v3 v4 v5 v6=ite' (decide (v2 < ((List.length v6):Int))) (ite' (inR v2 (List.length v6)) (zc (zw 1 v6 v2.toNat 0) fun l14=>ite' (fits (v5.length+[[D.int .i64 v1,D.list 1 l14]].length)) (F69.L7 k call k3 n v0 v1 (IntKind.i64.wrap (v2+1)) v3 v4 (v5++[[D.int .i64 v1,D.list 1 l14]]) v6) none) none) (F69.L3 k call k3 v0 (IntKind.i64.wrap (v1+1)) v3 v4 v5):=by kernel_rfl
theorem F69.run (k:Nat) (a0_0 a0_1 a1:Ovi.Rows):C (k+1) 69 [.agg [.d (.list 3 a0_0),.d (.list 2 a0_1)],.d (.list 5 a1)]=F69.L3 k (C k) k a1 0 a0_0 a0_1 []:=(crun k 69 (by kernel_rfl) Tryz.func69 rfl).trans (by kernel_rfl)
theorem F70.run (k:Nat) (a0 a1:Int):C (k+1) 70 [.d (.int .i64 a0),.d (.int .i64 a1)]=ite' (a1==0) none (ite' (a1==0) none (some ([(false,[.d (.int .i64 ((IntKind.i64.wrap (a0.tmod a1+a1)).tmod a1))])]))):=(crun k 70 (by kernel_rfl) Tryz.func70 rfl).trans (by kernel_rfl)
noncomputable def F71.L15 (k:Nat) (call:zi) (n:Nat) (v0:Int) (v1 v2 v3 v4:Ovi.Rows) (v5:Bool) (v6 v7:Int) (v8 v9:List (List D)) (v10 v11 v12 v13:Ovi.Rows):Option Res:=zt P hs call 71 k Tryz.f71 [1,1,1,1,1,1,0,1,0] [] n [(3,.var 192 0),(4,.var 256 0),(6,.var 384 0),(8,.var 512 0),(15,AV.own 100015 0),(16,AV.own 100016 0),(17,.d (.int .i64 v0))] [(192,Blk.var [.d (.list 3 v1),.d (.list 2 v2)]),(256,Blk.var [.d (.list 2 v3),.d (.list 2 v4),.d (.bool v5),.d (.int .i64 v6),.d (.int .i64 v7)]),(384,Blk.var [AV.own 200096 0,AV.own 200097 0]),(200096,Blk.arr 112 3 0 v8 (0,0,0)),(200097,Blk.arr 114 2 0 v9 (1,0,0)),(512,Blk.var [AV.own 200128 0,AV.own 200129 0]),(200128,Blk.arr 112 3 0 v10 (0,0,0)),(200129,Blk.arr 114 2 0 v11 (1,0,0)),(100015,Blk.arr 3 1 0 v12 (0,0,0)),(100016,Blk.arr 3 1 0 v13 (0,0,0))]
noncomputable def F71.L23 (k:Nat) (call:zi) (n:Nat) (v0:Ovi.Rows) (v1:Int) (v2 v3:Ovi.Rows) (v4:Bool) (v5 v6:Int) (v7 v8:List (List D)) (v9 v10 v11 v12:Ovi.Rows):Option Res:=zt P hs call 71 k Tryz.f71 [1,1,1,1,1,1,1,1,0,1,0] [] n [(4,.var 256 0),(6,.var 384 0),(8,.var 512 0),(15,.d (.list 1 v0)),(19,.var 1216 0),(20,.d (.int .i64 v1))] [(256,Blk.var [.d (.list 2 v2),.d (.list 2 v3),.d (.bool v4),.d (.int .i64 v5),.d (.int .i64 v6)]),(384,Blk.var [AV.own 200096 0,AV.own 200097 0]),(200096,Blk.arr 112 3 0 v7 (0,0,0)),(200097,Blk.arr 114 2 0 v8 (1,0,0)),(512,Blk.var [.d (.list 3 v9),.d (.list 2 v10)]),(1216,Blk.var [.d (.list 3 v11),.d (.list 2 v12)])]
theorem F71.L15.succ (k:Nat) (call:zi) (n:Nat) (v0:Int) (v1 v2 v3 v4:Ovi.Rows) (v5:Bool) (v6 v7:Int) (v8 v9:List (List D)) (v10 v11 v12 v13:Ovi.Rows):F71.L15 k call (n+1) v0 v1 v2 v3 v4 v5 v6 v7 v8 v9 v10 v11 v12 v13=ite' (decide (v0 < ((List.length v13):Int))) (zb (call 122 [.agg [.d (.list 3 v1),.d (.list 2 v2)]]) fun r25=>zg (resI .i64 1 false 1 r25 0 0) fun n26=>ite' (decide (IntKind.i64.wrap (n26+v0) ≥ 40)) (some ([(true,[.row 112 3 v10,.row 114 2 v11]),(false,[.d (.int .i64 3)])])) (ite' (inR v0 (List.length v13)) (zg (zm .i64 v13 v0.toNat 0) fun n27=>zb (call 123 [.d (.int .i64 (IntKind.i64.wrap (n26+v0)))]) fun r28=>zg (resI .i64 1 false 1 r28 0 0) fun n29=>ite' (inR n27 (List.length v12)) (F71.L15 k call n (IntKind.i64.wrap (v0+1)) v1 v2 v3 v4 v5 v6 v7 v8 v9 v10 v11 (zai v12 n27.toNat 0 [D.int .i64 n29]) v13) none) none)) (F71.L23 k call k v12 0 v3 v4 v5 v6 v7 v8 v9 v10 v11 v10 v11):=by kernel_rfl
theorem F71.L23.succ (k:Nat) (call:zi) (n:Nat) (v0:Ovi.Rows) (v1:Int) (v2 v3:Ovi.Rows) (v4:Bool) (v5 v6:Int) (v7 v8:List (List D)) (v9 v10 v11 v12:Ovi.Rows):F71.L23 k call (n+1) v0 v1 v2 v3 v4 v5 v6 v7 v8 v9 v10 v11 v12=ite' (decide (v1 < ((List.length v3):Int))) (ite' (inR v1 (List.length v3)) (zg (zm .i64 v3 v1.toNat 0) fun n24=>zc (zw 1 v3 v1.toNat 1) fun l25=>zb (call 124 [.agg [.d (.int .i64 n24),.d (.list 1 l25)],.d (.list 1 v0)]) fun r26=>zg (resI .i64 2 true 2 r26 0 0) fun n27=>zc (resO 3 1 2 true 2 r26 0 1) fun l28=>zj (resB 2 false 1 r26 1 0) fun b29=>zb (call 125 [.agg [.d (.list 3 v11),.d (.list 2 v12)],.agg [.d (.int .i64 n27),.d (.list 1 l28)]]) fun r30=>zc (resL 3 1 true 2 r30 0 0) fun l31=>zc (resL 2 1 true 2 r30 0 1) fun l32=>F71.L23 k call n v0 (IntKind.i64.wrap (v1+1)) v2 v3 v4 v5 v6 v7 v8 v9 v10 l31 l32) none) (ite' (decide (((List.length v12):Int) > 30)) (some ([(true,[.d (.list 3 v9),.d (.list 2 v10)]),(false,[.d (.int .i64 3)])])) (zb (call 68 [.agg [.d (.list 3 v11),.d (.list 2 v12)]]) fun r24=>zc (resO 112 3 1 true 2 r24 0 0) fun l25=>zc (resF 114 2 1 1 true 2 r24 0 1) fun l26=>some ([(true,[.row 112 3 l25,.row 114 2 l26]),(false,[.d (.int .i64 1)])]))):=by kernel_rfl
theorem F71.run (k:Nat) (a0_0 a0_1 a1_0 a1_1:Ovi.Rows) (a1_2:Bool) (a1_3 a1_4:Int) (a2:Ovi.Rows):C (k+1) 71 [.agg [.d (.list 3 a0_0),.d (.list 2 a0_1)],.agg [.d (.list 2 a1_0),.d (.list 2 a1_1),.d (.bool a1_2),.d (.int .i64 a1_3),.d (.int .i64 a1_4)],.d (.list 1 a2)]=zb ((C k) 68 [.agg [.d (.list 3 a0_0),.d (.list 2 a0_1)]]) fun r10=>zc (resO 112 3 1 true 2 r10 0 0) fun l11=>zc (resF 114 2 1 1 true 2 r10 0 1) fun l12=>zb ((C k) 118 [.agg [.d (.list 3 a0_0),.d (.list 2 a0_1)],.agg [.d (.list 2 a1_0),.d (.list 2 a1_1),.d (.bool a1_2),.d (.int .i64 a1_3),.d (.int .i64 a1_4)],.d (.list 1 a2)]) fun r13=>zj (resB 1 false 1 r13 0 0) fun b14=>ite' (!b14) (some ([(true,[.row 112 3 l11,.row 114 2 l12]),(false,[.d (.int .i64 0)])])) (ite' a1_2 (ite' (inR a1_3 (List.length a2)) (zg (zm .i64 a2 a1_3.toNat 0) fun n15=>ite' (inR a1_4 (List.length a2)) (zg (zm .i64 a2 a1_4.toNat 0) fun n16=>ite' (decide (n15 ≥ 0)) (ite' (decide (n16 ≥ 0)) (some ([(true,[.row 112 3 l11,.row 114 2 l12]),(false,[.d (.int .i64 2)])])) (zb ((C k) 119 [.d (.int .i64 (minI n15 n16))]) fun r17=>zg (resI .i64 2 false 1 r17 0 0) fun n18=>zj (resB 2 false 1 r17 1 0) fun b19=>zb ((C k) 120 [.agg [.d (.list 1 [[D.int .i64 n18]]),.d (.list 1 [[D.int .i64 (maxI n15 n16)]])],.agg [.d (.list 3 a0_0),.d (.list 2 a0_1)]]) fun r20=>zc (resO 112 3 2 true 2 r20 0 0) fun l21=>zc (resF 114 2 1 2 true 2 r20 0 1) fun l22=>zj (resB 2 false 1 r20 1 0) fun b23=>some ([(true,[.row 112 3 l21,.row 114 2 l22]),(false,[.d (.int .i64 1)])]))) (zb ((C k) 119 [.d (.int .i64 (minI n15 n16))]) fun r17=>zg (resI .i64 2 false 1 r17 0 0) fun n18=>zj (resB 2 false 1 r17 1 0) fun b19=>zb ((C k) 120 [.agg [.d (.list 1 [[D.int .i64 n18]]),.d (.list 1 [[D.int .i64 (maxI n15 n16)]])],.agg [.d (.list 3 a0_0),.d (.list 2 a0_1)]]) fun r20=>zc (resO 112 3 2 true 2 r20 0 0) fun l21=>zc (resF 114 2 1 2 true 2 r20 0 1) fun l22=>zj (resB 2 false 1 r20 1 0) fun b23=>some ([(true,[.row 112 3 l21,.row 114 2 l22]),(false,[.d (.int .i64 1)])]))) none) none) (ite' (fits (List.length a2)) (zb ((C k) 121 [.agg [.d (.list 2 a1_0),.d (.list 2 a1_1),.d (.bool a1_2),.d (.int .i64 a1_3),.d (.int .i64 a1_4)]]) fun r15=>zc (resO 3 1 1 false 1 r15 0 0) fun l16=>F71.L15 k (C k) k 0 a0_0 a0_1 a1_0 a1_1 a1_2 a1_3 a1_4 [] [] l11 l12 a2 l16) none)):=(crun k 71 (by kernel_rfl) Tryz.func71 rfl).trans (by kernel_rfl)
theorem F72.run (k:Nat) (a0_0:List UInt8) (a0_1:Int) (a0_2:Bool):C (k+1) 72 [.agg [.d (.str a0_0),.d (.int .i64 a0_1),.d (.bool a0_2)]]=some ([(true,[.d (.str a0_0),.d (.int .i64 a0_1),.d (.bool a0_2)])]):=(crun k 72 (by kernel_rfl) Tryz.func72 rfl).trans (by kernel_rfl)
theorem F73.run (k:Nat) (a0_0:Int) (a0_1:Ovi.Rows):C (k+1) 73 [.agg [.d (.int .i64 a0_0),.d (.list 1 a0_1)]]=zb ((C k) 11 [.d (.list 1 a0_1)]) fun r4=>zc (resO 3 1 1 false 1 r4 0 0) fun l5=>some ([(true,[.d (.int .i64 a0_0),.row 3 1 l5])]):=(crun k 73 (by kernel_rfl) Tryz.func73 rfl).trans (by kernel_rfl)
noncomputable def F74.L3 (k:Nat) (call:zi) (n:Nat) (v0:Ovi.Rows) (v1:Int) (v2:Ovi.Rows):Option Res:=zt P hs call 74 k Tryz.f74 [1,1,0,1,0] [] n [(0,.d (.list 2 v0)),(3,AV.own 100003 0),(4,.d (.int .i64 v1))] [(100003,Blk.arr 133 2 0 v2 (1,0,0))]
theorem F74.L3.succ (k:Nat) (call:zi) (n:Nat) (v0:Ovi.Rows) (v1:Int) (v2:Ovi.Rows):F74.L3 k call (n+1) v0 v1 v2=ite' (decide (v1 < ((List.length v0):Int))) (ite' (inR v1 (List.length v0)) (zg (zm .i64 v0 v1.toNat 0) fun n7=>zc (zw 1 v0 v1.toNat 1) fun l8=>zb (call 126 [.agg [.d (.int .i64 n7),.d (.list 1 l8)]]) fun r9=>zg (resI .i64 1 true 2 r9 0 0) fun n10=>zc (resO 3 1 1 true 2 r9 0 1) fun l11=>ite' (inR v1 (List.length v2)) (F74.L3 k call n v0 (IntKind.i64.wrap (v1+1)) (zai v2 v1.toNat 0 [D.int .i64 n10,D.list 1 l11])) none) none) (some ([(false,[.frow 133 2 1 v2])])):=by kernel_rfl
theorem F74.run (k:Nat) (a0:Ovi.Rows):C (k+1) 74 [.d (.list 2 a0)]=ite' (((List.length a0):Int)==((List.length a0):Int)) (ite' (inM ((List.length a0):Int)) (F74.L3 k (C k) k a0 0 (zbi ((List.length a0):Int) [D.int .i64 0,D.list 1 []])) none) none:=(crun k 74 (by kernel_rfl) Tryz.func74 rfl).trans (by kernel_rfl)
noncomputable def F75.L2 (k:Nat) (call:zi) (n:Nat) (v0 v1:Ovi.Rows) (v2 v3:Int):Option Res:=zt P hs call 75 k Tryz.f75 [1,0,1,0] [] n [(0,.d (.list 3 v0)),(5,.d (.list 3 v1)),(6,.d (.int .i64 v2)),(7,.d (.int .i64 v3))] []
theorem F75.L2.succ (k:Nat) (call:zi) (n:Nat) (v0 v1:Ovi.Rows) (v2 v3:Int):F75.L2 k call (n+1) v0 v1 v2 v3=ite' (decide (v3 < v2)) (ite' (inR v3 (List.length v1)) (zbl (zbm v1 v3.toNat 0) fun s8=>zg (zm .i64 v1 v3.toNat 1) fun n9=>zj (zan v1 v3.toNat 2) fun b10=>zb (call 127 [.agg [.d (.str s8),.d (.int .i64 n9),.d (.bool b10)]]) fun r11=>zj (resB 1 false 1 r11 0 0) fun b12=>ite' (!b12) (some ([(false,[.d (.bool false)])])) (ite' (decide (v3 > 0)) (ite' (inR (IntKind.i64.wrap (v3 - 1)) (List.length v0)) (zbl (zbm v0 (IntKind.i64.wrap (v3 - 1)).toNat 0) fun s13=>ite' (zaX s8 s13||s8==s13) (some ([(false,[.d (.bool false)])])) (F75.L2 k call n v0 v1 v2 (IntKind.i64.wrap (v3+1)))) none) (F75.L2 k call n v0 v1 v2 (IntKind.i64.wrap (v3+1))))) none) (some ([(false,[.d (.bool (decide (((List.length v0):Int)≤6)))])])):=by kernel_rfl
theorem F75.run (k:Nat) (a0:Ovi.Rows):C (k+1) 75 [.d (.list 3 a0)]=F75.L2 k (C k) k a0 a0 (((List.length a0):Int)) 0:=(crun k 75 (by kernel_rfl) Tryz.func75 rfl).trans (by kernel_rfl)
theorem F76.run (k:Nat) (a0:Ovi.Rows) (a1_0:Int) (a1_1:Ovi.Rows):C (k+1) 76 [.d (.list 3 a0),.agg [.d (.int .i64 a1_0),.d (.list 1 a1_1)]]=zb ((C k) 75 [.d (.list 3 a0)]) fun r5=>zj (resB 1 false 1 r5 0 0) fun b6=>ite' (!b6) (some ([(false,[.d (.bool false)])])) (zb ((C k) 128 [.d (.int .i64 a1_0),.d (.int .i64 0),.d (.int .i64 (IntKind.i64.wrap (((List.length a0):Int) - 1)))]) fun r7=>zj (resB 1 false 1 r7 0 0) fun b8=>ite' (!b8) (some ([(false,[.d (.bool false)])])) (ite' (inR a1_0 (List.length a0)) (zg (zm .i64 a0 a1_0.toNat 1) fun n9=>ite' (((List.length a1_1):Int) != n9) (some ([(false,[.d (.bool false)])])) (zb ((C k) 129 [.d (.list 1 a1_1),.d (.fn 130 [])]) fun r10=>zj (resB 1 false 1 r10 0 0) fun b11=>some ([(false,[.d (.bool !b11)])]))) none)):=(crun k 76 (by kernel_rfl) Tryz.func76 rfl).trans (by kernel_rfl)
theorem F77.run (k:Nat) (a0_0:Int) (a0_1:Ovi.Rows) (a1_0:Int) (a1_1:Ovi.Rows):C (k+1) 77 [.agg [.d (.int .i64 a0_0),.d (.list 1 a0_1)],.agg [.d (.int .i64 a1_0),.d (.list 1 a1_1)]]=zb ((C k) 133 [.d (.int .i64 a0_0),.d (.int .i64 a1_0)]) fun r6=>zg (resI .i64 1 false 1 r6 0 0) fun n7=>zb ((C k) 112 [.d (.list 1 a0_1),.d (.list 1 a1_1)]) fun r8=>zg (resI .i64 1 false 1 r8 0 0) fun n9=>zb ((C k) 132 [.d (.list 1 [[D.int .i64 n7],[D.int .i64 n9]])]) fun r10=>zg (resI .i64 1 false 1 r10 0 0) fun n11=>some ([(false,[.d (.int .i64 n11)])]):=(crun k 77 (by kernel_rfl) Tryz.func77 rfl).trans (by kernel_rfl)
theorem F78.run (k:Nat) (a0_0:Int) (a0_1:Ovi.Rows):C (k+1) 78 [.agg [.d (.int .i64 a0_0),.d (.list 1 a0_1)]]=zb ((C k) 134 [.d (.list 1 a0_1)]) fun r4=>zc (resO 3 1 1 false 1 r4 0 0) fun l5=>some ([(false,[.row 3 1 l5])]):=(crun k 78 (by kernel_rfl) Tryz.func78 rfl).trans (by kernel_rfl)
theorem F79.run (k:Nat) (a0:Ovi.Rows) (a1:FuncId) (a1c:Ovi.Rows):C (k+1) 79 [.d (.list 5 a0),.d (.fn a1 a1c)]=zb ((C k) 135 [.d (.list 5 a0),.d (.fn a1 a1c)]) fun r5=>zg (resI .i64 1 false 1 r5 0 0) fun n6=>some ([(false,[.d (.bool (decide (n6 ≥ 0)))])]):=(crun k 79 (by kernel_rfl) Tryz.func79 rfl).trans (by kernel_rfl)
theorem F80.run (k:Nat) (a0_0 a0_1:Ovi.Rows) (a0_2:Bool) (a0_3 a0_4:Int) (c0_0:Ovi.Rows):C (k+1) 80 [.agg [.d (.list 2 a0_0),.d (.list 2 a0_1),.d (.bool a0_2),.d (.int .i64 a0_3),.d (.int .i64 a0_4)],AV.cap [D.list 3 c0_0] 0]=zb ((C k) 81 [.d (.list 3 c0_0),.agg [.d (.list 2 a0_0),.d (.list 2 a0_1),.d (.bool a0_2),.d (.int .i64 a0_3),.d (.int .i64 a0_4)]]) fun r8=>zj (resB 1 false 1 r8 0 0) fun b9=>some ([(false,[.d (.bool !b9)])]):=(crun k 80 (by kernel_rfl) Tryz.func80 rfl).trans (by kernel_rfl)
theorem F81.run (k:Nat) (a0 a1_0 a1_1:Ovi.Rows) (a1_2:Bool) (a1_3 a1_4:Int):C (k+1) 81 [.d (.list 3 a0),.agg [.d (.list 2 a1_0),.d (.list 2 a1_1),.d (.bool a1_2),.d (.int .i64 a1_3),.d (.int .i64 a1_4)]]=zb ((C k) 136 [.d (.list 3 a0),.d (.list 2 a1_0),.d (.int .i64 2)]) fun r8=>zj (resB 1 false 1 r8 0 0) fun b9=>ite' (!b9) (some ([(false,[.d (.bool false)])])) (ite' a1_2 (zb ((C k) 137 [.d (.list 2 a1_0)]) fun r10=>zc (resO 3 1 1 false 1 r10 0 0) fun l11=>ite' (((List.length a1_1):Int)==0) (ite' (decide (a1_3 < a1_4)) (zb ((C k) 138 [.d (.list 1 l11),.d (.int .i64 a1_3)]) fun r12=>zj (resB 1 false 1 r12 0 0) fun b13=>ite' b13 (zb ((C k) 138 [.d (.list 1 l11),.d (.int .i64 a1_4)]) fun r14=>zj (resB 1 false 1 r14 0 0) fun b15=>some ([(false,[.d (.bool b15)])])) (some ([(false,[.d (.bool false)])]))) (some ([(false,[.d (.bool false)])]))) (some ([(false,[.d (.bool false)])]))) (zb ((C k) 136 [.d (.list 3 a0),.d (.list 2 a1_1),.d (.int .i64 2)]) fun r10=>zj (resB 1 false 1 r10 0 0) fun b11=>ite' b11 (ite' (a1_3==0) (ite' (a1_4==0) (zb ((C k) 139 [.d (.list 2 a1_1),.d (.fn 140 [[D.list 3 a0]])]) fun r12=>zj (resB 1 false 1 r12 0 0) fun b13=>some ([(false,[.d (.bool !b13)])])) (some ([(false,[.d (.bool false)])]))) (some ([(false,[.d (.bool false)])]))) (some ([(false,[.d (.bool false)])])))):=(crun k 81 (by kernel_rfl) Tryz.func81 rfl).trans (by kernel_rfl)
noncomputable def F83.L3 (k:Nat) (call:zi) (n:Nat) (v0:Ovi.Rows) (v1 v2:Int) (v3:List (List D)):Option Res:=zt P hs call 83 k Tryz.f83 [1,1,0,1,0] [] n [(3,AV.own 100003 0),(7,.d (.list 2 v0)),(8,.d (.int .i64 v1)),(9,.d (.int .i64 v2))] [(100003,Blk.arr 114 2 0 v3 (1,0,0))]
theorem F83.L3.succ (k:Nat) (call:zi) (n:Nat) (v0:Ovi.Rows) (v1 v2:Int) (v3:List (List D)):F83.L3 k call (n+1) v0 v1 v2 v3=ite' (decide (v2 < v1)) (ite' (inR v2 (List.length v0)) (zg (zm .i64 v0 v2.toNat 0) fun n8=>zc (zw 1 v0 v2.toNat 1) fun l9=>zb (call 141 [.agg [.d (.int .i64 n8),.d (.list 1 l9)]]) fun r10=>zg (resI .i64 1 true 2 r10 0 0) fun n11=>zc (resO 3 1 1 true 2 r10 0 1) fun l12=>ite' (fits (v3.length+[[D.int .i64 n11,D.list 1 l12]].length)) (F83.L3 k call n v0 v1 (IntKind.i64.wrap (v2+1)) (v3++[[D.int .i64 n11,D.list 1 l12]])) none) none) (some ([(false,[.frow 114 2 1 v3])])):=by kernel_rfl
theorem F83.run (k:Nat) (a0:Ovi.Rows):C (k+1) 83 [.d (.list 2 a0)]=F83.L3 k (C k) k a0 (((List.length a0):Int)) 0 []:=(crun k 83 (by kernel_rfl) Tryz.func83 rfl).trans (by kernel_rfl)
noncomputable def F84.L5 (k:Nat) (call:zi) (n:Nat) (v0 v1:Int) (v2 v3 v4 v5:Ovi.Rows) (v6:Bool) (v7 v8:Int) (v9:List (List D)) (v10:Ovi.Rows) (v11:Nat):Option Res:=zt P hs call 84 k Tryz.f84 [1,1,1,0,1,0] [] n [(2,.var 128 0),(3,.var 192 0),(5,AV.own 100005 0),(18,AV.own 100018 0),(19,.d (.int .i64 v0)),(20,.d (.int .i64 v1))] [(128,Blk.var [.d (.list 3 v2),.d (.list 2 v3)]),(192,Blk.var [.d (.list 2 v4),.d (.list 2 v5),.d (.bool v6),.d (.int .i64 v7),.d (.int .i64 v8)]),(100005,Blk.arr 27 1 0 v9 (1,0,0)),(100018,Blk.arr 27 1 0 v10 (1,v11,0))]
theorem F84.L5.succ (k:Nat) (call:zi) (n:Nat) (v0 v1:Int) (v2 v3 v4 v5:Ovi.Rows) (v6:Bool) (v7 v8:Int) (v9:List (List D)) (v10:Ovi.Rows) (v11:Nat):F84.L5 k call (n+1) v0 v1 v2 v3 v4 v5 v6 v7 v8 v9 v10 v11=ite' (decide (v1 < v0)) (ite' (inR v1 (List.length v10)) (zc (zw 1 v10 v1.toNat 0) fun l22=>zb (call 85 [.agg [.d (.list 3 v2),.d (.list 2 v3)],.agg [.d (.list 2 v4),.d (.list 2 v5),.d (.bool v6),.d (.int .i64 v7),.d (.int .i64 v8)],.d (.list 1 l22)]) fun r23=>zj (resB 1 false 1 r23 0 0) fun b24=>ite' b24 (ite' (v11.ble v1.toNat) (ite' (fits (v9.length+[[D.list 1 l22]].length)) (F84.L5 k call n v0 (IntKind.i64.wrap (v1+1)) v2 v3 v4 v5 v6 v7 v8 (v9++[[D.list 1 l22]]) v10 ((v1.toNat+1,0).fst)) none) (ite' (fits (v9.length+[[D.list 1 l22]].length)) none none)) (F84.L5 k call n v0 (IntKind.i64.wrap (v1+1)) v2 v3 v4 v5 v6 v7 v8 v9 v10 ((v11,0).fst))) none) (some ([(false,[.frow 27 1 1 v9])])):=by kernel_rfl
theorem F84.run (k:Nat) (a0_0 a0_1 a1_0 a1_1:Ovi.Rows) (a1_2:Bool) (a1_3 a1_4:Int):C (k+1) 84 [.agg [.d (.list 3 a0_0),.d (.list 2 a0_1)],.agg [.d (.list 2 a1_0),.d (.list 2 a1_1),.d (.bool a1_2),.d (.int .i64 a1_3),.d (.int .i64 a1_4)]]=zb ((C k) 81 [.d (.list 3 a0_0),.agg [.d (.list 2 a1_0),.d (.list 2 a1_1),.d (.bool a1_2),.d (.int .i64 a1_3),.d (.int .i64 a1_4)]]) fun r9=>zj (resB 1 false 1 r9 0 0) fun b10=>ite' (!b10) (some ([(false,[.nil])])) (zb ((C k) 142 [.agg [.d (.list 3 a0_0),.d (.list 2 a0_1)],.d (.list 2 a1_0)]) fun r11=>zc (resF 27 1 1 1 false 1 r11 0 0) fun l12=>F84.L5 k (C k) k (((List.length l12):Int)) 0 a0_0 a0_1 a1_0 a1_1 a1_2 a1_3 a1_4 [] l12 0):=(crun k 84 (by kernel_rfl) Tryz.func84 rfl).trans (by kernel_rfl)
theorem F85.run (k:Nat) (a0_0 a0_1 a1_0 a1_1:Ovi.Rows) (a1_2:Bool) (a1_3 a1_4:Int) (a2:Ovi.Rows):C (k+1) 85 [.agg [.d (.list 3 a0_0),.d (.list 2 a0_1)],.agg [.d (.list 2 a1_0),.d (.list 2 a1_1),.d (.bool a1_2),.d (.int .i64 a1_3),.d (.int .i64 a1_4)],.d (.list 1 a2)]=zb ((C k) 143 [.agg [.d (.list 3 a0_0),.d (.list 2 a0_1)],.agg [.d (.list 2 a1_0),.d (.list 2 a1_1),.d (.bool a1_2),.d (.int .i64 a1_3),.d (.int .i64 a1_4)],.d (.list 1 a2)]) fun r10=>zj (resB 1 false 1 r10 0 0) fun b11=>ite' (!b11) (some ([(false,[.d (.bool false)])])) (ite' a1_2 (ite' (inR a1_3 (List.length a2)) (zg (zm .i64 a2 a1_3.toNat 0) fun n12=>ite' (inR a1_4 (List.length a2)) (zg (zm .i64 a2 a1_4.toNat 0) fun n13=>some ([(false,[.d (.bool (n12 != n13))])])) none) none) (zb ((C k) 144 [.agg [.d (.list 3 a0_0),.d (.list 2 a0_1)],.d (.list 2 a1_1),.d (.list 1 a2)]) fun r12=>zj (resB 1 false 1 r12 0 0) fun b13=>some ([(false,[.d (.bool !b13)])]))):=(crun k 85 (by kernel_rfl) Tryz.func85 rfl).trans (by kernel_rfl)
theorem F86.run (k:Nat) (a0_0 a0_1:Ovi.Rows) (a1 a2:Int):C (k+1) 86 [.agg [.d (.list 3 a0_0),.d (.list 2 a0_1)],.d (.int .i64 a1),.d (.int .i64 a2)]=zb ((C k) 145 [.d (.int .i64 a1)]) fun r6=>zj (resB 1 false 1 r6 0 0) fun b7=>ite' (!b7) (zb ((C k) 145 [.d (.int .i64 a2)]) fun r8=>zj (resB 1 false 1 r8 0 0) fun b9=>ite' (!b9) (zb ((C k) 42 [.agg [.d (.list 3 a0_0),.d (.list 2 a0_1)]]) fun r10=>zc (resO 112 3 1 true 2 r10 0 0) fun l11=>zc (resF 114 2 1 1 true 2 r10 0 1) fun l12=>some ([(true,[.row 112 3 l11,.frow 114 2 1 l12]),(false,[.d (.int .i64 2)])])) (zb ((C k) 146 [.d (.int .i64 (minI a1 a2))]) fun r10=>zg (resI .i64 2 false 1 r10 0 0) fun n11=>zj (resB 2 false 1 r10 1 0) fun b12=>zb ((C k) 147 [.agg [.d (.list 1 [[D.int .i64 n11]]),.d (.list 1 [[D.int .i64 (maxI a1 a2)]])],.agg [.d (.list 3 a0_0),.d (.list 2 a0_1)]]) fun r13=>zc (resO 112 3 2 true 2 r13 0 0) fun l14=>zc (resF 114 2 1 2 true 2 r13 0 1) fun l15=>zj (resB 2 false 1 r13 1 0) fun b16=>some ([(true,[.row 112 3 l14,.frow 114 2 1 l15]),(false,[.d (.int .i64 1)])]))) (zb ((C k) 146 [.d (.int .i64 (minI a1 a2))]) fun r8=>zg (resI .i64 2 false 1 r8 0 0) fun n9=>zj (resB 2 false 1 r8 1 0) fun b10=>zb ((C k) 147 [.agg [.d (.list 1 [[D.int .i64 n9]]),.d (.list 1 [[D.int .i64 (maxI a1 a2)]])],.agg [.d (.list 3 a0_0),.d (.list 2 a0_1)]]) fun r11=>zc (resO 112 3 2 true 2 r11 0 0) fun l12=>zc (resF 114 2 1 2 true 2 r11 0 1) fun l13=>zj (resB 2 false 1 r11 1 0) fun b14=>some ([(true,[.row 112 3 l12,.frow 114 2 1 l13]),(false,[.d (.int .i64 1)])])):=(crun k 86 (by kernel_rfl) Tryz.func86 rfl).trans (by kernel_rfl)
theorem F88.run (k:Nat) (a0_0 a0_1:Ovi.Rows):C (k+1) 88 [.agg [.d (.list 3 a0_0),.d (.list 2 a0_1)]]=zb ((C k) 148 [.agg [.d (.list 3 a0_0),.d (.list 2 a0_1)]]) fun r4=>zc (resO 3 1 1 false 1 r4 0 0) fun l5=>ite' (((List.length l5):Int)==0) (some ([(false,[.d (.int .i64 0)])])) (ite' (inR (IntKind.i64.wrap (((List.length l5):Int) - 1)) (List.length l5)) (zg (zm .i64 l5 (IntKind.i64.wrap (((List.length l5):Int) - 1)).toNat 0) fun n6=>some ([(false,[.d (.int .i64 (IntKind.i64.wrap (n6+1)))])])) none):=(crun k 88 (by kernel_rfl) Tryz.func88 rfl).trans (by kernel_rfl)
theorem F89.run (k:Nat) (a0_0 a0_1:Ovi.Rows) (a0_2:Bool) (a0_3 a0_4:Int):C (k+1) 89 [.agg [.d (.list 2 a0_0),.d (.list 2 a0_1),.d (.bool a0_2),.d (.int .i64 a0_3),.d (.int .i64 a0_4)]]=zb ((C k) 149 [.agg [.d (.list 2 a0_0),.d (.list 2 a0_1),.d (.bool a0_2),.d (.int .i64 a0_3),.d (.int .i64 a0_4)],.d (.bool false)]) fun r7=>zc (resO 3 1 1 false 1 r7 0 0) fun l8=>some ([(false,[.row 3 1 l8])]):=(crun k 89 (by kernel_rfl) Tryz.func89 rfl).trans (by kernel_rfl)
theorem F90.run (k:Nat) (a0:Int):C (k+1) 90 [.d (.int .i64 a0)]=some ([(false,[.d (.int .i64 (IntKind.i64.wrap ((-1) - a0)))])]):=(crun k 90 (by kernel_rfl) Tryz.func90 rfl).trans (by kernel_rfl)
noncomputable def F91.L3 (k:Nat) (call:zi) (n:Nat) (v0 v1:Ovi.Rows) (v2 v3 v4:Int) (v5:List (List D)) (v6:Int) (v7:List (List D)):Option Res:=zt P hs call 91 k Tryz.f91 [1,1,0,1,0] [] n [(1,.d (.list 1 v0)),(4,.var 256 0),(6,.var 384 0),(14,.d (.list 1 v1)),(15,.d (.int .i64 v2)),(16,.d (.int .i64 v3))] [(256,Blk.var [.d (.int .i64 v4),AV.own 200065 0]),(200065,Blk.arr 3 1 0 v5 (0,0,0)),(384,Blk.var [.d (.int .i64 v6),AV.own 200097 0]),(200097,Blk.arr 3 1 0 v7 (0,0,0))]
theorem F91.L3.succ (k:Nat) (call:zi) (n:Nat) (v0 v1:Ovi.Rows) (v2 v3 v4:Int) (v5:List (List D)) (v6:Int) (v7:List (List D)):F91.L3 k call (n+1) v0 v1 v2 v3 v4 v5 v6 v7=ite' (decide (v3 < v2)) (ite' (inR v3 (List.length v1)) (zg (zm .i64 v1 v3.toNat 0) fun n14=>ite' (decide (n14 ≥ 0)) (ite' (decide (n14 ≥ ((List.length v0):Int))) (some ([(true,[.d (.int .i64 0),.nil]),(false,[.d (.bool false)])])) (ite' (inR n14 (List.length v0)) (zg (zm .i64 v0 n14.toNat 0) fun n15=>zb (call 131 [.d (.int .i64 n15)]) fun r16=>zj (resB 1 false 1 r16 0 0) fun b17=>ite' (!b17) (some ([(true,[.d (.int .i64 0),.nil]),(false,[.d (.bool false)])])) (ite' (fits (v7.length+[[D.int .i64 n15]].length)) (F91.L3 k call n v0 v1 v2 (IntKind.i64.wrap (v3+1)) v4 v5 v6 (v7++[[D.int .i64 n15]])) none)) none)) (zb (call 131 [.d (.int .i64 (IntKind.i64.wrap ((-1) - n14)))]) fun r15=>zj (resB 1 false 1 r15 0 0) fun b16=>ite' (!b16) (some ([(true,[.d (.int .i64 0),.nil]),(false,[.d (.bool false)])])) (ite' (fits (v7.length+[[D.int .i64 (IntKind.i64.wrap ((-1) - n14))]].length)) (F91.L3 k call n v0 v1 v2 (IntKind.i64.wrap (v3+1)) v4 v5 v6 (v7++[[D.int .i64 (IntKind.i64.wrap ((-1) - n14))]])) none))) none) (some ([(true,[.d (.int .i64 v6),.row 3 1 v7]),(false,[.d (.bool true)])])):=by kernel_rfl
theorem F91.run (k:Nat) (a0_0:Int) (a0_1 a1:Ovi.Rows):C (k+1) 91 [.agg [.d (.int .i64 a0_0),.d (.list 1 a0_1)],.d (.list 1 a1)]=F91.L3 k (C k) k a1 a0_1 (((List.length a0_1):Int)) 0 0 [] a0_0 []:=(crun k 91 (by kernel_rfl) Tryz.func91 rfl).trans (by kernel_rfl)
theorem F92.run (k:Nat) (a0:Ovi.Rows):C (k+1) 92 [.d (.list 2 a0)]=zb ((C k) 83 [.d (.list 2 a0)]) fun r3=>zc (resF 114 2 1 1 false 1 r3 0 0) fun l4=>zb ((C k) 150 [.var 0 0,.d (.int .i64 (↑114:Int)),.d (.list 2 l4),.d (.fn 77 [])]) fun r5=>zc (resF 114 2 0 1 false 1 r5 0 0) fun l6=>zb ((C k) 151 [.var 0 0,.d (.int .i64 (↑114:Int)),.d (.list 2 l6),.d (.fn 152 [])]) fun r7=>zc (resF 114 2 0 2 false 1 r7 0 0) fun l8=>some ([(false,[.frow 114 2 1 l8])]):=(crun k 92 (by kernel_rfl) Tryz.func92 rfl).trans (by kernel_rfl)
theorem F93.run (k:Nat) (a0_0:Int) (a0_1:Ovi.Rows) (a1_0:Int) (a1_1:Ovi.Rows):C (k+1) 93 [.agg [.d (.int .i64 a0_0),.d (.list 1 a0_1)],.agg [.d (.int .i64 a1_0),.d (.list 1 a1_1)]]=ite' (a0_0 != a1_0) (some ([(false,[.d (.bool false)])])) (zb ((C k) 16 [.d (.list 1 a0_1),.d (.list 1 a1_1)]) fun r6=>zj (resB 1 false 1 r6 0 0) fun b7=>ite' (!b7) (some ([(false,[.d (.bool false)])])) (some ([(false,[.d (.bool true)])]))):=(crun k 93 (by kernel_rfl) Tryz.func93 rfl).trans (by kernel_rfl)
theorem F94.run (k:Nat) (a0_0:List UInt8) (a0_1:Int) (a0_2:Bool) (a1_0:List UInt8) (a1_1:Int) (a1_2:Bool):C (k+1) 94 [.agg [.d (.str a0_0),.d (.int .i64 a0_1),.d (.bool a0_2)],.agg [.d (.str a1_0),.d (.int .i64 a1_1),.d (.bool a1_2)]]=ite' (!a0_0==a1_0) (some ([(false,[.d (.bool false)])])) (ite' (a0_1 != a1_1) (some ([(false,[.d (.bool false)])])) (ite' (!a0_2==a1_2) (some ([(false,[.d (.bool false)])])) (some ([(false,[.d (.bool true)])])))):=(crun k 94 (by kernel_rfl) Tryz.func94 rfl).trans (by kernel_rfl)
theorem F95.run (k:Nat) (a0_0:Int) (a0_1:Ovi.Rows) (a1_0:Int) (a1_1:Ovi.Rows):C (k+1) 95 [.agg [.d (.int .i64 a0_0),.d (.list 1 a0_1)],.agg [.d (.int .i64 a1_0),.d (.list 1 a1_1)]]=ite' (a0_0 != a1_0) (some ([(false,[.d (.bool false)])])) (zb ((C k) 16 [.d (.list 1 a0_1),.d (.list 1 a1_1)]) fun r6=>zj (resB 1 false 1 r6 0 0) fun b7=>ite' (!b7) (some ([(false,[.d (.bool false)])])) (some ([(false,[.d (.bool true)])]))):=(crun k 95 (by kernel_rfl) Tryz.func95 rfl).trans (by kernel_rfl)
noncomputable def F96.L4 (k:Nat) (call:zi) (n:Nat) (v0 v1:Ovi.Rows) (v2:Int):Option Res:=zt P hs call 96 k Tryz.f96 [1,1,0,1,0] [] n [(0,.d (.list 2 v0)),(1,.d (.list 2 v1)),(5,.d (.int .i64 v2))] []
theorem F96.L4.succ (k:Nat) (call:zi) (n:Nat) (v0 v1:Ovi.Rows) (v2:Int):F96.L4 k call (n+1) v0 v1 v2=ite' (decide (v2 < ((List.length v0):Int))) (ite' (inR v2 (List.length v0)) (zg (zm .i64 v0 v2.toNat 0) fun n8=>zc (zw 1 v0 v2.toNat 1) fun l9=>ite' (inR v2 (List.length v1)) (zg (zm .i64 v1 v2.toNat 0) fun n10=>zc (zw 1 v1 v2.toNat 1) fun l11=>zb (call 153 [.agg [.d (.int .i64 n8),.d (.list 1 l9)],.agg [.d (.int .i64 n10),.d (.list 1 l11)]]) fun r12=>zj (resB 1 false 1 r12 0 0) fun b13=>ite' (!b13) (some ([(false,[.d (.bool false)])])) (F96.L4 k call n v0 v1 (IntKind.i64.wrap (v2+1)))) none) none) (some ([(false,[.d (.bool true)])])):=by kernel_rfl
theorem F96.run (k:Nat) (a0 a1:Ovi.Rows):C (k+1) 96 [.d (.list 2 a0),.d (.list 2 a1)]=ite' (((List.length a0):Int) != ((List.length a1):Int)) (some ([(false,[.d (.bool false)])])) (F96.L4 k (C k) k a0 a1 0):=(crun k 96 (by kernel_rfl) Tryz.func96 rfl).trans (by kernel_rfl)
noncomputable def F97.L4 (k:Nat) (call:zi) (n:Nat) (v0:Int) (v1:List UInt8):Option Res:=zt P hs call 97 k Tryz.f97 [1,1,1,0,0] [] n [(0,.d (.int .i64 v0)),(3,.d (.str v1))] []
theorem F97.L4.succ (k:Nat) (call:zi) (n:Nat) (v0:Int) (v1:List UInt8):F97.L4 k call (n+1) v0 v1=ite' (decide (v0 > 0)) (zbl (zd7 [[D.int IntKind.u8 (IntKind.u8.wrap (IntKind.i64.wrap (48+v0.tmod 10)))]]) fun s6=>ite' (fits (s6.length+v1.length)) (F97.L4 k call n (IntKind.i64.wrap (v0.tdiv 10)) (s6++v1)) none) (ite' (fits (1+v1.length)) (some ([(false,[.d (.str ((109:UInt8)::v1))])])) none):=by kernel_rfl
theorem F97.eq (k:Nat) (call:zi) (a0:Int):zc5 P hs call (97:FuncId) k Tryz.f97 [.d (.int .i64 a0)]=ite' (decide (a0≤0)) (some ([(false,[.d (.str [(109:UInt8),(48:UInt8)])])])) (F97.L4 k call k a0 []):=by kernel_rfl
theorem F97.run (k:Nat) (a0:Int):C (k+1) 97 [.d (.int .i64 a0)]=ite' (decide (a0≤0)) (some ([(false,[.d (.str [(109:UInt8),(48:UInt8)])])])) (F97.L4 k (C k) k a0 []):=(crun k 97 (by kernel_rfl) Tryz.func97 rfl).trans (F97.eq k (C k) a0)
noncomputable def F98.L2 (k:Nat) (call:zi) (n:Nat) (v0:Ovi.Rows) (v1 v2:Int):Option Res:=zt P hs call 98 k Tryz.f98 [1,0,1,0] [] n [(0,.d (.list 3 v0)),(1,.d (.int .i64 v1)),(5,.d (.int .i64 v2))] []
theorem F98.L2.succ (k:Nat) (call:zi) (n:Nat) (v0:Ovi.Rows) (v1 v2:Int):F98.L2 k call (n+1) v0 v1 v2=ite' (decide (v2 < ((List.length v0):Int))) (ite' (inR v2 (List.length v0)) (zbl (zbm v0 v2.toNat 0) fun s8=>zb (call 97 [.d (.int .i64 v1)]) fun r9=>zbl (resS 1 false 1 r9 0 0) fun s10=>ite' (!s8==s10) (some ([(false,[.d (.int .i64 (-1))])])) (ite' (inR v2 (List.length v0)) (zg (zm .i64 v0 v2.toNat 1) fun n11=>ite' (n11 != IntKind.i64.wrap (v1+1)) (some ([(false,[.d (.int .i64 (-1))])])) (ite' (inR v2 (List.length v0)) (zj (zan v0 v2.toNat 2) fun b12=>ite' (!b12==((IntKind.i64.wrap (IntKind.i64.wrap (v1+1)+1)).tmod 3==0)) (some ([(false,[.d (.int .i64 (-1))])])) (F98.L2 k call n v0 (IntKind.i64.wrap (IntKind.i64.wrap (IntKind.i64.wrap (v1+1)+1)+1)) (IntKind.i64.wrap (v2+1)))) none)) none)) none) (some ([(false,[.d (.int .i64 v1)])])):=by kernel_rfl
theorem F98.run (k:Nat) (a0:Ovi.Rows) (a1:Int):C (k+1) 98 [.d (.list 3 a0),.d (.int .i64 a1)]=F98.L2 k (C k) k a0 a1 0:=(crun k 98 (by kernel_rfl) Tryz.func98 rfl).trans (by kernel_rfl)
noncomputable def F99.L2 (k:Nat) (call:zi) (n:Nat) (v0:Ovi.Rows) (v1 v2:Int):Option Res:=zt P hs call 99 k Tryz.f99 [1,0,1,0] [] n [(0,.d (.list 2 v0)),(1,.d (.int .i64 v1)),(5,.d (.int .i64 v2))] []
theorem F99.L2.succ (k:Nat) (call:zi) (n:Nat) (v0:Ovi.Rows) (v1 v2:Int):F99.L2 k call (n+1) v0 v1 v2=ite' (decide (v2 < ((List.length v0):Int))) (ite' (inR v2 (List.length v0)) (zg (zm .i64 v0 v2.toNat 0) fun n8=>ite' (n8 != v1) (some ([(false,[.d (.int .i64 (-1))])])) (ite' (inR v2 (List.length v0)) (zc (zw 1 v0 v2.toNat 1) fun l9=>zb (call 64 [.d (.list 1 l9),.d (.int .i64 (IntKind.i64.wrap (v1+1)))]) fun r10=>zg (resI .i64 1 false 1 r10 0 0) fun n11=>ite' (decide (n11 < 0)) (some ([(false,[.d (.int .i64 (-1))])])) (F99.L2 k call n v0 n11 (IntKind.i64.wrap (v2+1)))) none)) none) (some ([(false,[.d (.int .i64 v1)])])):=by kernel_rfl
theorem F99.run (k:Nat) (a0:Ovi.Rows) (a1:Int):C (k+1) 99 [.d (.list 2 a0),.d (.int .i64 a1)]=F99.L2 k (C k) k a0 a1 0:=(crun k 99 (by kernel_rfl) Tryz.func99 rfl).trans (by kernel_rfl)
theorem F100.run (k:Nat) (a0:Ovi.Rows) (a1:Int):C (k+1) 100 [.d (.list 1 a0),.d (.int .i64 a1)]=ite' (decide (IntKind.i64.wrap (a1 - ((List.length a0):Int)) < 0)) (some ([(false,[.d (.int .i64 (-1))])])) (some ([(false,[.d (.int .i64 (IntKind.i64.wrap (a1 - ((List.length a0):Int))))])])):=(crun k 100 (by kernel_rfl) Tryz.func100 rfl).trans (by kernel_rfl)
noncomputable def F103.L2 (k:Nat) (call:zi) (n:Nat) (v0 v1:Ovi.Rows) (v2:Int):Option Res:=zt P hs call 103 k Tryz.f103 [1,0,1,0] [] n [(0,.d (.list 1 v0)),(1,.d (.list 1 v1)),(5,.d (.int .i64 v2))] []
theorem F103.L2.succ (k:Nat) (call:zi) (n:Nat) (v0 v1:Ovi.Rows) (v2:Int):F103.L2 k call (n+1) v0 v1 v2=ite' (decide (v2 < ((List.length v0):Int))) (ite' (decide (v2 < ((List.length v1):Int))) (ite' (inR v2 (List.length v0)) (zg (zm .i64 v0 v2.toNat 0) fun n8=>ite' (inR v2 (List.length v1)) (zg (zm .i64 v1 v2.toNat 0) fun n9=>ite' (decide (n8 < n9)) (some ([(false,[.d (.int .i64 (-1))])])) (ite' (inR v2 (List.length v0)) (zg (zm .i64 v0 v2.toNat 0) fun n10=>ite' (inR v2 (List.length v1)) (zg (zm .i64 v1 v2.toNat 0) fun n11=>ite' (decide (n10 > n11)) (some ([(false,[.d (.int .i64 1)])])) (F103.L2 k call n v0 v1 (IntKind.i64.wrap (v2+1)))) none) none)) none) none) (ite' (decide (((List.length v0):Int) < ((List.length v1):Int))) (some ([(false,[.d (.int .i64 (-1))])])) (ite' (decide (((List.length v0):Int) > ((List.length v1):Int))) (some ([(false,[.d (.int .i64 1)])])) (some ([(false,[.d (.int .i64 0)])]))))) (ite' (decide (((List.length v0):Int) < ((List.length v1):Int))) (some ([(false,[.d (.int .i64 (-1))])])) (ite' (decide (((List.length v0):Int) > ((List.length v1):Int))) (some ([(false,[.d (.int .i64 1)])])) (some ([(false,[.d (.int .i64 0)])])))):=by kernel_rfl
theorem F103.run (k:Nat) (a0 a1:Ovi.Rows):C (k+1) 103 [.d (.list 1 a0),.d (.list 1 a1)]=F103.L2 k (C k) k a0 a1 0:=(crun k 103 (by kernel_rfl) Tryz.func103 rfl).trans (by kernel_rfl)
noncomputable def F104.L4 (k:Nat) (call:zi) (n:Nat) (v0 v1:Int) (v2:Ovi.Rows):Option Res:=zt P hs call 104 k Tryz.f104 [1,1,0,1,0] [] n [(3,.var 192 0),(5,.d (.int .i64 v0))] [(192,Blk.var [.d (.int .i64 v1),.d (.list 1 v2)])]
theorem F104.L4.succ (k:Nat) (call:zi) (n:Nat) (v0 v1:Int) (v2:Ovi.Rows):F104.L4 k call (n+1) v0 v1 v2=ite' (decide (v0 < ((List.length v2):Int))) (ite' (inR v0 (List.length v2)) (zg (zm .i64 v2 v0.toNat 0) fun n9=>zb (call 159 [.d (.int .i64 n9)]) fun r10=>zj (resB 1 false 1 r10 0 0) fun b11=>ite' (!b11) (some ([(false,[.d (.bool false)])])) (F104.L4 k call n (IntKind.i64.wrap (v0+1)) v1 v2)) none) (some ([(false,[.d (.bool true)])])):=by kernel_rfl
theorem F104.run (k:Nat) (a0:Ovi.Rows) (a1_0:Int) (a1_1:Ovi.Rows):C (k+1) 104 [.d (.list 3 a0),.agg [.d (.int .i64 a1_0),.d (.list 1 a1_1)]]=zb ((C k) 107 [.d (.list 3 a0)]) fun r5=>zj (resB 1 false 1 r5 0 0) fun b6=>ite' (!b6) (some ([(false,[.d (.bool false)])])) (zb ((C k) 157 [.d (.int .i64 a1_0),.d (.int .i64 0),.d (.int .i64 (IntKind.i64.wrap (((List.length a0):Int) - 1)))]) fun r7=>zj (resB 1 false 1 r7 0 0) fun b8=>ite' (!b8) (some ([(false,[.d (.bool false)])])) (ite' (inR a1_0 (List.length a0)) (zg (zm .i64 a0 a1_0.toNat 1) fun n9=>ite' (((List.length a1_1):Int) != n9) (some ([(false,[.d (.bool false)])])) (F104.L4 k (C k) k 0 a1_0 a1_1)) none)):=(crun k 104 (by kernel_rfl) Tryz.func104 rfl).trans (by kernel_rfl)
theorem F105.run (k:Nat) (a0_0:Int) (a0_1:Ovi.Rows) (a1_0:Int) (a1_1:Ovi.Rows):C (k+1) 105 [.agg [.d (.int .i64 a0_0),.d (.list 1 a0_1)],.agg [.d (.int .i64 a1_0),.d (.list 1 a1_1)]]=ite' (decide (a0_0 < a1_0)) (some ([(false,[.d (.int .i64 (-1))])])) (ite' (decide (a0_0 > a1_0)) (some ([(false,[.d (.int .i64 1)])])) (zb ((C k) 103 [.d (.list 1 a0_1),.d (.list 1 a1_1)]) fun r6=>zg (resI .i64 1 false 1 r6 0 0) fun n7=>some ([(false,[.d (.int .i64 n7)])]))):=(crun k 105 (by kernel_rfl) Tryz.func105 rfl).trans (by kernel_rfl)
noncomputable def F106.L3 (k:Nat) (call:zi) (n:Nat) (v0:List (List D)) (v1 v2:Int) (v3:Ovi.Rows):Option Res:=zt P hs call 106 k Tryz.f106 [1,1,0,1,0] [] n [(1,.var 64 0),(3,.d (.list 1 v0)),(4,.d (.int .i64 v1))] [(64,Blk.var [.d (.int .i64 v2),.d (.list 1 v3)])]
theorem F106.L3.succ (k:Nat) (call:zi) (n:Nat) (v0:List (List D)) (v1 v2:Int) (v3:Ovi.Rows):F106.L3 k call (n+1) v0 v1 v2 v3=ite' (decide (v1 < ((List.length v3):Int))) (ite' (inR v1 (List.length v3)) (zg (zm .i64 v3 v1.toNat 0) fun n9=>zb (call 119 [.d (.int .i64 n9)]) fun r10=>zg (resI .i64 2 false 1 r10 0 0) fun n11=>zj (resB 2 false 1 r10 1 0) fun b12=>ite' b12 (zb (call 160 [.d (.list 1 v0),.d (.int .i64 n11)]) fun r13=>zc (resL 1 1 false 1 r13 0 0) fun l14=>F106.L3 k call n l14 (IntKind.i64.wrap (v1+1)) v2 v3) (F106.L3 k call n v0 (IntKind.i64.wrap (v1+1)) v2 v3)) none) (some ([(false,[.d (.list 1 v0)])])):=by kernel_rfl
theorem F106.run (k:Nat) (a0_0:Int) (a0_1:Ovi.Rows):C (k+1) 106 [.agg [.d (.int .i64 a0_0),.d (.list 1 a0_1)]]=F106.L3 k (C k) k [] 0 a0_0 a0_1:=(crun k 106 (by kernel_rfl) Tryz.func106 rfl).trans (by kernel_rfl)
noncomputable def F107.L2 (k:Nat) (call:zi) (n:Nat) (v0:Ovi.Rows) (v1:Int):Option Res:=zt P hs call 107 k Tryz.f107 [1,0,1,0] [] n [(0,.d (.list 3 v0)),(3,.d (.int .i64 v1))] []
theorem F107.L2.succ (k:Nat) (call:zi) (n:Nat) (v0:Ovi.Rows) (v1:Int):F107.L2 k call (n+1) v0 v1=ite' (decide (v1 < ((List.length v0):Int))) (ite' (inR v1 (List.length v0)) (zbl (zbm v0 v1.toNat 0) fun s6=>zg (zm .i64 v0 v1.toNat 1) fun n7=>zj (zan v0 v1.toNat 2) fun b8=>zb (call 161 [.agg [.d (.str s6),.d (.int .i64 n7),.d (.bool b8)]]) fun r9=>zj (resB 1 false 1 r9 0 0) fun b10=>ite' (!b10) (some ([(false,[.d (.bool false)])])) (ite' (decide (v1 > 0)) (ite' (inR (IntKind.i64.wrap (v1 - 1)) (List.length v0)) (zbl (zbm v0 (IntKind.i64.wrap (v1 - 1)).toNat 0) fun s11=>ite' (inR v1 (List.length v0)) (zbl (zbm v0 v1.toNat 0) fun s12=>ite' (!zaX s11 s12) (some ([(false,[.d (.bool false)])])) (F107.L2 k call n v0 (IntKind.i64.wrap (v1+1)))) none) none) (F107.L2 k call n v0 (IntKind.i64.wrap (v1+1))))) none) (some ([(false,[.d (.bool (decide (((List.length v0):Int)≤6)))])])):=by kernel_rfl
theorem F107.run (k:Nat) (a0:Ovi.Rows):C (k+1) 107 [.d (.list 3 a0)]=F107.L2 k (C k) k a0 0:=(crun k 107 (by kernel_rfl) Tryz.func107 rfl).trans (by kernel_rfl)
noncomputable def F108.L4 (k:Nat) (call:zi) (n:Nat) (v0:Ovi.Rows) (v1:Int) (v2 v3:Ovi.Rows) (v4:Bool) (v5 v6:Int):Option Res:=zt P hs call 108 k Tryz.f108 [1,1,0,1,0] [] n [(0,.d (.list 3 v0)),(3,.var 192 0),(5,.d (.int .i64 v1))] [(192,Blk.var [.d (.list 2 v2),.d (.list 2 v3),.d (.bool v4),.d (.int .i64 v5),.d (.int .i64 v6)])]
noncomputable def F108.L12 (k:Nat) (call:zi) (n:Nat) (v0:Ovi.Rows) (v1:Int) (v2 v3:Ovi.Rows) (v4:Bool) (v5 v6:Int):Option Res:=zt P hs call 108 k Tryz.f108 [1,1,1,1,0,1,0] [] n [(0,.d (.list 3 v0)),(3,.var 192 0),(7,.d (.int .i64 v1))] [(192,Blk.var [.d (.list 2 v2),.d (.list 2 v3),.d (.bool v4),.d (.int .i64 v5),.d (.int .i64 v6)])]
theorem F108.L4.succ (k:Nat) (call:zi) (n:Nat) (v0:Ovi.Rows) (v1:Int) (v2 v3:Ovi.Rows) (v4:Bool) (v5 v6:Int):F108.L4 k call (n+1) v0 v1 v2 v3 v4 v5 v6=ite' (decide (v1 < ((List.length v2):Int))) (ite' (inR v1 (List.length v2)) (zg (zm .i64 v2 v1.toNat 0) fun n16=>zc (zw 1 v2 v1.toNat 1) fun l17=>zb (call 155 [.d (.list 3 v0),.agg [.d (.int .i64 n16),.d (.list 1 l17)]]) fun r18=>zj (resB 1 false 1 r18 0 0) fun b19=>ite' (!b19) (some ([(false,[.d (.bool false)])])) (F108.L4 k call n v0 (IntKind.i64.wrap (v1+1)) v2 v3 v4 v5 v6)) none) (ite' v4 (zb (call 154 [.d (.list 2 v2)]) fun r16=>zc (resL 1 1 false 1 r16 0 0) fun l17=>ite' (((List.length v3):Int)==0) (zb (call 156 [.d (.list 1 l17),.d (.int .i64 v5)]) fun r18=>zj (resB 1 false 1 r18 0 0) fun b19=>ite' b19 (zb (call 156 [.d (.list 1 l17),.d (.int .i64 v6)]) fun r20=>zj (resB 1 false 1 r20 0 0) fun b21=>ite' b21 (some ([(false,[.d (.bool (decide (v5 < v6)))])])) (some ([(false,[.d (.bool false)])]))) (some ([(false,[.d (.bool false)])]))) (some ([(false,[.d (.bool false)])]))) (F108.L12 k call k v0 0 v2 v3 v4 v5 v6)):=by kernel_rfl
theorem F108.L12.succ (k:Nat) (call:zi) (n:Nat) (v0:Ovi.Rows) (v1:Int) (v2 v3:Ovi.Rows) (v4:Bool) (v5 v6:Int):F108.L12 k call (n+1) v0 v1 v2 v3 v4 v5 v6=ite' (decide (v1 < ((List.length v3):Int))) (ite' (inR v1 (List.length v3)) (zg (zm .i64 v3 v1.toNat 0) fun n16=>zc (zw 1 v3 v1.toNat 1) fun l17=>zb (call 155 [.d (.list 3 v0),.agg [.d (.int .i64 n16),.d (.list 1 l17)]]) fun r18=>zj (resB 1 false 1 r18 0 0) fun b19=>ite' (!b19) (some ([(false,[.d (.bool false)])])) (ite' (inR v1 (List.length v3)) (zg (zm .i64 v3 v1.toNat 0) fun n20=>ite' (inR n20 (List.length v0)) (zj (zan v0 n20.toNat 2) fun b21=>ite' b21 (some ([(false,[.d (.bool false)])])) (F108.L12 k call n v0 (IntKind.i64.wrap (v1+1)) v2 v3 v4 v5 v6)) none) none)) none) (zb (call 157 [.d (.int .i64 ((List.length v3):Int)),.d (.int .i64 1),.d (.int .i64 2)]) fun r16=>zj (resB 1 false 1 r16 0 0) fun b17=>ite' b17 (ite' (v5==0) (some ([(false,[.d (.bool (v6==0))])])) (some ([(false,[.d (.bool false)])]))) (some ([(false,[.d (.bool false)])]))):=by kernel_rfl
theorem F108.run (k:Nat) (a0 a1_0 a1_1:Ovi.Rows) (a1_2:Bool) (a1_3 a1_4:Int):C (k+1) 108 [.d (.list 3 a0),.agg [.d (.list 2 a1_0),.d (.list 2 a1_1),.d (.bool a1_2),.d (.int .i64 a1_3),.d (.int .i64 a1_4)]]=zb ((C k) 157 [.d (.int .i64 ((List.length a1_0):Int)),.d (.int .i64 1),.d (.int .i64 2)]) fun r8=>zj (resB 1 false 1 r8 0 0) fun b9=>ite' (!b9) (some ([(false,[.d (.bool false)])])) (F108.L4 k (C k) k a0 0 a1_0 a1_1 a1_2 a1_3 a1_4):=(crun k 108 (by kernel_rfl) Tryz.func108 rfl).trans (by kernel_rfl)
noncomputable def F112.L2 (k:Nat) (call:zi) (n:Nat) (v0 v1 v2:Ovi.Rows) (v3 v4:Int):Option Res:=zt P hs call 112 k Tryz.f112 [1,0,1,0] [] n [(0,.d (.list 1 v0)),(1,.d (.list 1 v1)),(9,.d (.list 1 v2)),(10,.d (.int .i64 v3)),(11,.d (.int .i64 v4))] []
theorem F112.L2.succ (k:Nat) (call:zi) (n:Nat) (v0 v1 v2:Ovi.Rows) (v3 v4:Int):F112.L2 k call (n+1) v0 v1 v2 v3 v4=ite' (decide (v4 < v3)) (ite' (inR v4 (List.length v2)) (zg (zm .i64 v2 v4.toNat 0) fun n10=>ite' (decide (v4 ≥ ((List.length v1):Int))) (some ([(false,[.d (.int .i64 1)])])) (ite' (inR v4 (List.length v1)) (zg (zm .i64 v1 v4.toNat 0) fun n11=>zb (call 133 [.d (.int .i64 n10),.d (.int .i64 n11)]) fun r12=>zg (resI .i64 1 false 1 r12 0 0) fun n13=>ite' (n13 != 0) (some ([(false,[.d (.int .i64 n13)])])) (F112.L2 k call n v0 v1 v2 v3 (IntKind.i64.wrap (v4+1)))) none)) none) (ite' (decide (((List.length v0):Int) < ((List.length v1):Int))) (some ([(false,[.d (.int .i64 (-1))])])) (some ([(false,[.d (.int .i64 0)])]))):=by kernel_rfl
theorem F112.run (k:Nat) (a0 a1:Ovi.Rows):C (k+1) 112 [.d (.list 1 a0),.d (.list 1 a1)]=F112.L2 k (C k) k a0 a1 a0 (((List.length a0):Int)) 0:=(crun k 112 (by kernel_rfl) Tryz.func112 rfl).trans (by kernel_rfl)
noncomputable def F114.L4 (k:Nat) (call:zi) (n:Nat) (v0 v1:Ovi.Rows) (v2 v3:Int):Option Res:=zt P hs call 114 k Tryz.f114 [1,1,0,1,0] [] n [(0,.d (.list 1 v0)),(1,.d (.list 1 v1)),(12,.d (.int .i64 v2)),(13,.d (.int .i64 v3))] []
theorem F114.L4.succ (k:Nat) (call:zi) (n:Nat) (v0 v1:Ovi.Rows) (v2 v3:Int):F114.L4 k call (n+1) v0 v1 v2 v3=ite' (decide (v3 < v2)) (ite' (inR v3 (List.length v0)) (zg (zm .i64 v0 v3.toNat 0) fun n9=>ite' (inR v3 (List.length v1)) (zg (zm .i64 v1 v3.toNat 0) fun n10=>ite' (n9 != n10) (some ([(false,[.d (.bool false)])])) (F114.L4 k call n v0 v1 v2 (IntKind.i64.wrap (v3+1)))) none) none) (some ([(false,[.d (.bool true)])])):=by kernel_rfl
theorem F114.run (k:Nat) (a0 a1:Ovi.Rows):C (k+1) 114 [.d (.list 1 a0),.d (.list 1 a1)]=ite' (((List.length a0):Int) != ((List.length a1):Int)) (some ([(false,[.d (.bool false)])])) (F114.L4 k (C k) k a0 a1 (((List.length a0):Int)) 0):=(crun k 114 (by kernel_rfl) Tryz.func114 rfl).trans (by kernel_rfl)
theorem F115.run (k:Nat) (a0_0:Int) (a0_1:Ovi.Rows) (a1:Int):C (k+1) 115 [.agg [.d (.int .i64 a0_0),.d (.list 1 a0_1)],.d (.int .i64 a1)]=zb ((C k) 100 [.d (.list 1 a0_1),.d (.int .i64 a1)]) fun r5=>zg (resI .i64 1 false 1 r5 0 0) fun n6=>ite' (decide (n6 < 0)) (some ([(false,[.d (.int .i64 (-1))])])) (some ([(false,[.d (.int .i64 n6)])])):=(crun k 115 (by kernel_rfl) Tryz.func115 rfl).trans (by kernel_rfl)
theorem F116.run (k:Nat) (a0_0:Int) (a0_1:Ovi.Rows):C (k+1) 116 [.agg [.d (.int .i64 a0_0),.d (.list 1 a0_1)]]=ite' (fits (List.length a0_1)) (some ([(true,[.d (.int .i64 a0_0),.row 3 1 a0_1])])) none:=(crun k 116 (by kernel_rfl) Tryz.func116 rfl).trans (by kernel_rfl)
noncomputable def F117.L6 (k:Nat) (call:zi) (n:Nat) (v0:Int) (v1 v2 v3 v4:Ovi.Rows) (v5:Bool) (v6 v7:Int) (v8:List (List D)) (v9:Ovi.Rows):Option Res:=zt P hs call 117 k Tryz.f117 [1,1,1,1,0,1,0] [] n [(2,.var 128 0),(3,.var 192 0),(5,AV.own 100005 0),(6,AV.own 100006 0),(7,.d (.int .i64 v0))] [(128,Blk.var [.d (.list 3 v1),.d (.list 2 v2)]),(192,Blk.var [.d (.list 2 v3),.d (.list 2 v4),.d (.bool v5),.d (.int .i64 v6),.d (.int .i64 v7)]),(100005,Blk.arr 27 1 0 v8 (0,0,0)),(100006,Blk.arr 27 1 0 v9 (0,0,0))]
theorem F117.L6.succ (k:Nat) (call:zi) (n:Nat) (v0:Int) (v1 v2 v3 v4:Ovi.Rows) (v5:Bool) (v6 v7:Int) (v8:List (List D)) (v9:Ovi.Rows):F117.L6 k call (n+1) v0 v1 v2 v3 v4 v5 v6 v7 v8 v9=ite' (decide (v0 < ((List.length v9):Int))) (ite' (inR v0 (List.length v9)) (zc (zw 1 v9 v0.toNat 0) fun l20=>zb (call 118 [.agg [.d (.list 3 v1),.d (.list 2 v2)],.agg [.d (.list 2 v3),.d (.list 2 v4),.d (.bool v5),.d (.int .i64 v6),.d (.int .i64 v7)],.d (.list 1 l20)]) fun r21=>zj (resB 1 false 1 r21 0 0) fun b22=>ite' b22 (ite' (inR v0 (List.length v9)) (zc (zw 1 v9 v0.toNat 0) fun l23=>ite' (fits (v8.length+[[D.list 1 l23]].length)) (F117.L6 k call n (IntKind.i64.wrap (v0+1)) v1 v2 v3 v4 v5 v6 v7 (v8++[[D.list 1 l23]]) v9) none) none) (F117.L6 k call n (IntKind.i64.wrap (v0+1)) v1 v2 v3 v4 v5 v6 v7 v8 v9)) none) (some ([(false,[.row 27 1 v8])])):=by kernel_rfl
theorem F117.run (k:Nat) (a0_0 a0_1 a1_0 a1_1:Ovi.Rows) (a1_2:Bool) (a1_3 a1_4:Int):C (k+1) 117 [.agg [.d (.list 3 a0_0),.d (.list 2 a0_1)],.agg [.d (.list 2 a1_0),.d (.list 2 a1_1),.d (.bool a1_2),.d (.int .i64 a1_3),.d (.int .i64 a1_4)]]=zb ((C k) 108 [.d (.list 3 a0_0),.agg [.d (.list 2 a1_0),.d (.list 2 a1_1),.d (.bool a1_2),.d (.int .i64 a1_3),.d (.int .i64 a1_4)]]) fun r9=>zj (resB 1 false 1 r9 0 0) fun b10=>ite' (!b10) (some ([(false,[.nil])])) (zb ((C k) 167 [.agg [.d (.list 3 a0_0),.d (.list 2 a0_1)],.d (.list 2 a1_0)]) fun r11=>zc (resO 27 1 1 false 1 r11 0 0) fun l12=>F117.L6 k (C k) k 0 a0_0 a0_1 a1_0 a1_1 a1_2 a1_3 a1_4 [] l12):=(crun k 117 (by kernel_rfl) Tryz.func117 rfl).trans (by kernel_rfl)
theorem F118.run (k:Nat) (a0_0 a0_1 a1_0 a1_1:Ovi.Rows) (a1_2:Bool) (a1_3 a1_4:Int) (a2:Ovi.Rows):C (k+1) 118 [.agg [.d (.list 3 a0_0),.d (.list 2 a0_1)],.agg [.d (.list 2 a1_0),.d (.list 2 a1_1),.d (.bool a1_2),.d (.int .i64 a1_3),.d (.int .i64 a1_4)],.d (.list 1 a2)]=zb ((C k) 168 [.agg [.d (.list 3 a0_0),.d (.list 2 a0_1)],.agg [.d (.list 2 a1_0),.d (.list 2 a1_1),.d (.bool a1_2),.d (.int .i64 a1_3),.d (.int .i64 a1_4)],.d (.list 1 a2)]) fun r10=>zj (resB 1 false 1 r10 0 0) fun b11=>ite' (!b11) (some ([(false,[.d (.bool false)])])) (ite' a1_2 (ite' (inR a1_3 (List.length a2)) (zg (zm .i64 a2 a1_3.toNat 0) fun n12=>ite' (inR a1_4 (List.length a2)) (zg (zm .i64 a2 a1_4.toNat 0) fun n13=>some ([(false,[.d (.bool (n12 != n13))])])) none) none) (zb ((C k) 169 [.agg [.d (.list 3 a0_0),.d (.list 2 a0_1)],.d (.list 2 a1_1),.d (.list 1 a2)]) fun r12=>zj (resB 1 false 1 r12 0 0) fun b13=>some ([(false,[.d (.bool !b13)])]))):=(crun k 118 (by kernel_rfl) Tryz.func118 rfl).trans (by kernel_rfl)
theorem F119.run (k:Nat) (a0:Int):C (k+1) 119 [.d (.int .i64 a0)]=ite' (decide (a0 ≥ 0)) (some ([(false,[.d (.int .i64 0)]),(false,[.d (.bool false)])])) (zb ((C k) 157 [.d (.int .i64 (IntKind.i64.wrap ((-1) - a0))),.d (.int .i64 0),.d (.int .i64 39)]) fun r3=>zj (resB 1 false 1 r3 0 0) fun b4=>ite' (!b4) (some ([(false,[.d (.int .i64 0)]),(false,[.d (.bool false)])])) (some ([(false,[.d (.int .i64 (IntKind.i64.wrap ((-1) - a0)))]),(false,[.d (.bool true)])]))):=(crun k 119 (by kernel_rfl) Tryz.func119 rfl).trans (by kernel_rfl)
noncomputable def F120.L5 (k:Nat) (call:zi) (n:Nat) (v0:Int) (v1 v2 v3 v4:Ovi.Rows) (v5 v6:List (List D)) (v7:Ovi.Rows) (v8:List (List D)):Option Res:=zt P hs call 120 k Tryz.f120 [1,1,1,0,1,0] [] n [(2,.var 128 0),(3,.var 192 0),(4,.var 256 0),(6,.var 384 0),(7,.d (.int .i64 v0))] [(128,Blk.var [.d (.list 1 v1),.d (.list 1 v2)]),(192,Blk.var [.d (.list 3 v3),.d (.list 2 v4)]),(256,Blk.var [AV.own 200064 0,AV.own 200065 0]),(200064,Blk.arr 112 3 0 v5 (0,0,0)),(200065,Blk.arr 114 2 0 v6 (1,0,0)),(384,Blk.var [.d (.list 3 v7),.d (.list 2 v8)])]
theorem F120.L5.succ (k:Nat) (call:zi) (n:Nat) (v0:Int) (v1 v2 v3 v4:Ovi.Rows) (v5 v6:List (List D)) (v7:Ovi.Rows) (v8:List (List D)):F120.L5 k call (n+1) v0 v1 v2 v3 v4 v5 v6 v7 v8=ite' (decide (v0 < ((List.length v4):Int))) (ite' (inR v0 (List.length v4)) (zg (zm .i64 v4 v0.toNat 0) fun n16=>zc (zw 1 v4 v0.toNat 1) fun l17=>zb (call 171 [.agg [.d (.list 1 v1),.d (.list 1 v2)],.agg [.d (.int .i64 n16),.d (.list 1 l17)]]) fun r18=>zg (resI .i64 1 true 2 r18 0 0) fun n19=>zc (resO 3 1 1 true 2 r18 0 1) fun l20=>zb (call 125 [.agg [.d (.list 3 v7),.d (.list 2 v8)],.agg [.d (.int .i64 n19),.d (.list 1 l20)]]) fun r21=>zc (resL 3 1 true 2 r21 0 0) fun l22=>zc (resL 2 1 true 2 r21 0 1) fun l23=>F120.L5 k call n (IntKind.i64.wrap (v0+1)) v1 v2 v3 v4 v5 v6 l22 l23) none) (zb (call 68 [.agg [.d (.list 3 v7),.d (.list 2 v8)]]) fun r16=>zc (resO 112 3 1 true 2 r16 0 0) fun l17=>zc (resF 114 2 1 1 true 2 r16 0 1) fun l18=>some ([(true,[.row 112 3 l17,.frow 114 2 1 l18]),(false,[.d (.bool true)])])):=by kernel_rfl
theorem F120.run (k:Nat) (a0_0 a0_1 a1_0 a1_1:Ovi.Rows):C (k+1) 120 [.agg [.d (.list 1 a0_0),.d (.list 1 a0_1)],.agg [.d (.list 3 a1_0),.d (.list 2 a1_1)]]=zb ((C k) 170 [.agg [.d (.list 1 a0_0),.d (.list 1 a0_1)]]) fun r6=>zj (resB 1 false 1 r6 0 0) fun b7=>ite' (!b7) (some ([(true,[.nil,.nil]),(false,[.d (.bool false)])])) (zb ((C k) 58 [.agg [.d (.list 3 a1_0),.d (.list 2 a1_1)]]) fun r8=>zj (resB 1 false 1 r8 0 0) fun b9=>ite' (!b9) (some ([(true,[.nil,.nil]),(false,[.d (.bool false)])])) (ite' (fits (List.length a1_0)) (F120.L5 k (C k) k 0 a0_0 a0_1 a1_0 a1_1 [] [] a1_0 []) none)):=(crun k 120 (by kernel_rfl) Tryz.func120 rfl).trans (by kernel_rfl)
noncomputable def F121.L5 (k:Nat) (call:zi) (n:Nat) (v0 v1:Ovi.Rows) (v2:Int) (v3:List (List D)):Option Res:=zt P hs call 121 k Tryz.f121 [1,1,1,1,0,1,0] [] n [(3,AV.own 100003 0),(4,.d (.list 1 v0)),(5,.d (.list 1 v1)),(6,.d (.int .i64 v2))] [(100003,Blk.arr 3 1 0 v3 (0,0,0))]
theorem F121.L5.succ (k:Nat) (call:zi) (n:Nat) (v0 v1:Ovi.Rows) (v2:Int) (v3:List (List D)):F121.L5 k call (n+1) v0 v1 v2 v3=ite' (decide (v2 < ((List.length v1):Int))) (ite' (inR v2 (List.length v1)) (zg (zm .i64 v1 v2.toNat 0) fun n12=>zb (call 156 [.d (.list 1 v0),.d (.int .i64 n12)]) fun r13=>zj (resB 1 false 1 r13 0 0) fun b14=>ite' (!b14) (ite' (inR v2 (List.length v1)) (zg (zm .i64 v1 v2.toNat 0) fun n15=>ite' (fits (v3.length+[[D.int .i64 n15]].length)) (F121.L5 k call n v0 v1 (IntKind.i64.wrap (v2+1)) (v3++[[D.int .i64 n15]])) none) none) (F121.L5 k call n v0 v1 (IntKind.i64.wrap (v2+1)) v3)) none) (some ([(false,[.row 3 1 v3])])):=by kernel_rfl
theorem F121.run (k:Nat) (a0_0 a0_1:Ovi.Rows) (a0_2:Bool) (a0_3 a0_4:Int):C (k+1) 121 [.agg [.d (.list 2 a0_0),.d (.list 2 a0_1),.d (.bool a0_2),.d (.int .i64 a0_3),.d (.int .i64 a0_4)]]=zb ((C k) 154 [.d (.list 2 a0_0)]) fun r7=>zc (resL 1 1 false 1 r7 0 0) fun l8=>zb ((C k) 154 [.d (.list 2 a0_1)]) fun r9=>zc (resL 1 1 false 1 r9 0 0) fun l10=>F121.L5 k (C k) k l8 l10 0 []:=(crun k 121 (by kernel_rfl) Tryz.func121 rfl).trans (by kernel_rfl)
theorem F122.run (k:Nat) (a0_0 a0_1:Ovi.Rows):C (k+1) 122 [.agg [.d (.list 3 a0_0),.d (.list 2 a0_1)]]=zb ((C k) 172 [.agg [.d (.list 3 a0_0),.d (.list 2 a0_1)]]) fun r4=>zc (resL 1 1 false 1 r4 0 0) fun l5=>ite' (((List.length l5):Int)==0) (some ([(false,[.d (.int .i64 0)])])) (ite' (inR (IntKind.i64.wrap (((List.length l5):Int) - 1)) (List.length l5)) (zg (zm .i64 l5 (IntKind.i64.wrap (((List.length l5):Int) - 1)).toNat 0) fun n6=>some ([(false,[.d (.int .i64 (IntKind.i64.wrap (n6+1)))])])) none):=(crun k 122 (by kernel_rfl) Tryz.func122 rfl).trans (by kernel_rfl)
theorem F123.run (k:Nat) (a0:Int):C (k+1) 123 [.d (.int .i64 a0)]=some ([(false,[.d (.int .i64 (IntKind.i64.wrap ((-1) - a0)))])]):=(crun k 123 (by kernel_rfl) Tryz.func123 rfl).trans (by kernel_rfl)
noncomputable def F124.L3 (k:Nat) (call:zi) (n:Nat) (v0:Ovi.Rows) (v1 v2:Int) (v3:Ovi.Rows) (v4:Int) (v5:List (List D)) (v6:Int) (v7:List (List D)):Option Res:=zt P hs call 124 k Tryz.f124 [1,1,0,1,0] [] n [(1,.d (.list 1 v0)),(2,.var 128 0),(4,.var 256 0),(6,.var 384 0),(7,.d (.int .i64 v1))] [(128,Blk.var [.d (.int .i64 v2),.d (.list 1 v3)]),(256,Blk.var [.d (.int .i64 v4),AV.own 200065 0]),(200065,Blk.arr 3 1 0 v5 (0,0,0)),(384,Blk.var [.d (.int .i64 v6),AV.own 200097 0]),(200097,Blk.arr 3 1 0 v7 (0,0,0))]
theorem F124.L3.succ (k:Nat) (call:zi) (n:Nat) (v0:Ovi.Rows) (v1 v2:Int) (v3:Ovi.Rows) (v4:Int) (v5:List (List D)) (v6:Int) (v7:List (List D)):F124.L3 k call (n+1) v0 v1 v2 v3 v4 v5 v6 v7=ite' (decide (v1 < ((List.length v3):Int))) (ite' (inR v1 (List.length v3)) (zg (zm .i64 v3 v1.toNat 0) fun n14=>ite' (inR v1 (List.length v3)) (zg (zm .i64 v3 v1.toNat 0) fun n15=>ite' (decide (n15 ≥ 0)) (ite' (inR v1 (List.length v3)) (zg (zm .i64 v3 v1.toNat 0) fun n16=>ite' (decide (n16 ≥ ((List.length v0):Int))) (some ([(true,[.d (.int .i64 0),.nil]),(false,[.d (.bool false)])])) (ite' (inR v1 (List.length v3)) (zg (zm .i64 v3 v1.toNat 0) fun n17=>ite' (inR n17 (List.length v0)) (zg (zm .i64 v0 n17.toNat 0) fun n18=>zb (call 159 [.d (.int .i64 n18)]) fun r19=>zj (resB 1 false 1 r19 0 0) fun b20=>ite' (!b20) (some ([(true,[.d (.int .i64 0),.nil]),(false,[.d (.bool false)])])) (ite' (inR v1 (List.length v3)) (zg (zm .i64 v3 v1.toNat 0) fun n21=>ite' (decide (n21 < 0)) (ite' (decide (n18 < 0)) (some ([(true,[.d (.int .i64 0),.nil]),(false,[.d (.bool false)])])) (ite' (fits (v7.length+[[D.int .i64 n18]].length)) (F124.L3 k call n v0 (IntKind.i64.wrap (v1+1)) v2 v3 v4 v5 v6 (v7++[[D.int .i64 n18]])) none)) (ite' (fits (v7.length+[[D.int .i64 n18]].length)) (F124.L3 k call n v0 (IntKind.i64.wrap (v1+1)) v2 v3 v4 v5 v6 (v7++[[D.int .i64 n18]])) none)) none)) none) none)) none) (zb (call 159 [.d (.int .i64 (IntKind.i64.wrap ((-1) - n14)))]) fun r16=>zj (resB 1 false 1 r16 0 0) fun b17=>ite' (!b17) (some ([(true,[.d (.int .i64 0),.nil]),(false,[.d (.bool false)])])) (ite' (inR v1 (List.length v3)) (zg (zm .i64 v3 v1.toNat 0) fun n18=>ite' (decide (n18 < 0)) (ite' (decide (IntKind.i64.wrap ((-1) - n14) < 0)) (some ([(true,[.d (.int .i64 0),.nil]),(false,[.d (.bool false)])])) (ite' (fits (v7.length+[[D.int .i64 (IntKind.i64.wrap ((-1) - n14))]].length)) (F124.L3 k call n v0 (IntKind.i64.wrap (v1+1)) v2 v3 v4 v5 v6 (v7++[[D.int .i64 (IntKind.i64.wrap ((-1) - n14))]])) none)) (ite' (fits (v7.length+[[D.int .i64 (IntKind.i64.wrap ((-1) - n14))]].length)) (F124.L3 k call n v0 (IntKind.i64.wrap (v1+1)) v2 v3 v4 v5 v6 (v7++[[D.int .i64 (IntKind.i64.wrap ((-1) - n14))]])) none)) none))) none) none) (some ([(true,[.d (.int .i64 v6),.row 3 1 v7]),(false,[.d (.bool true)])])):=by kernel_rfl
theorem F124.run (k:Nat) (a0_0:Int) (a0_1 a1:Ovi.Rows):C (k+1) 124 [.agg [.d (.int .i64 a0_0),.d (.list 1 a0_1)],.d (.list 1 a1)]=F124.L3 k (C k) k a1 0 a0_0 a0_1 0 [] a0_0 []:=(crun k 124 (by kernel_rfl) Tryz.func124 rfl).trans (by kernel_rfl)
noncomputable def F125.L4 (k:Nat) (call:zi) (n:Nat) (v0:Int) (v1 v2:Ovi.Rows) (v3:Int) (v4:Ovi.Rows) (v5 v6:List (List D)):Option Res:=zt P hs call 125 k Tryz.f125 [1,1,1,0,0] [] n [(2,.var 128 0),(3,.var 192 0),(4,.var 256 0),(5,.d (.int .i64 v0))] [(128,Blk.var [.d (.list 3 v1),.d (.list 2 v2)]),(192,Blk.var [.d (.int .i64 v3),.d (.list 1 v4)]),(256,Blk.var [.d (.list 3 v5),.d (.list 2 v6)])]
theorem F125.L4.succ (k:Nat) (call:zi) (n:Nat) (v0:Int) (v1 v2:Ovi.Rows) (v3:Int) (v4:Ovi.Rows) (v5 v6:List (List D)):F125.L4 k call (n+1) v0 v1 v2 v3 v4 v5 v6=ite' (decide (v0 < ((List.length v2):Int))) (ite' (inR v0 (List.length v2)) (zg (zm .i64 v2 v0.toNat 0) fun n14=>zc (zw 1 v2 v0.toNat 1) fun l15=>zb (call 105 [.agg [.d (.int .i64 n14),.d (.list 1 l15)],.agg [.d (.int .i64 v3),.d (.list 1 v4)]]) fun r16=>zg (resI .i64 1 false 1 r16 0 0) fun n17=>ite' (decide (n17 < 0)) (F125.L4 k call n (IntKind.i64.wrap (v0+1)) v1 v2 v3 v4 v5 v6) (zb (call 116 [.agg [.d (.int .i64 v3),.d (.list 1 v4)]]) fun r18=>zg (resI .i64 1 true 2 r18 0 0) fun n19=>zc (resO 3 1 1 true 2 r18 0 1) fun l20=>ite' (inS v0 ((List.length v2):Int) (List.length v2)) (ite' (fits ([[D.int .i64 n19,D.list 1 l20]].length+(List.drop v0.toNat v2).length)) (ite' (inS 0 v0 (List.length v2)) (ite' (fits (List.take v0.toNat v2).length) (ite' (fits ((List.take v0.toNat v2).length+List.length ([[D.int .i64 n19,D.list 1 l20]]++List.drop v0.toNat v2))) (some ([(true,[.d (.list 3 v1),.row 114 2 (List.take v0.toNat v2++([[D.int .i64 n19,D.list 1 l20]]++List.drop v0.toNat v2))])])) none) none) none) none) none)) none) (zb (call 116 [.agg [.d (.int .i64 v3),.d (.list 1 v4)]]) fun r14=>zg (resI .i64 1 true 2 r14 0 0) fun n15=>zc (resO 3 1 1 true 2 r14 0 1) fun l16=>ite' (inS v0 ((List.length v2):Int) (List.length v2)) (ite' (fits ([[D.int .i64 n15,D.list 1 l16]].length+(List.drop v0.toNat v2).length)) (ite' (inS 0 v0 (List.length v2)) (ite' (fits (List.take v0.toNat v2).length) (ite' (fits ((List.take v0.toNat v2).length+List.length ([[D.int .i64 n15,D.list 1 l16]]++List.drop v0.toNat v2))) (some ([(true,[.d (.list 3 v1),.row 114 2 (List.take v0.toNat v2++([[D.int .i64 n15,D.list 1 l16]]++List.drop v0.toNat v2))])])) none) none) none) none) none):=by kernel_rfl
theorem F125.run (k:Nat) (a0_0 a0_1:Ovi.Rows) (a1_0:Int) (a1_1:Ovi.Rows):C (k+1) 125 [.agg [.d (.list 3 a0_0),.d (.list 2 a0_1)],.agg [.d (.int .i64 a1_0),.d (.list 1 a1_1)]]=zb ((C k) 173 [.agg [.d (.list 3 a0_0),.d (.list 2 a0_1)],.agg [.d (.int .i64 a1_0),.d (.list 1 a1_1)]]) fun r6=>zg (resI .i64 1 false 1 r6 0 0) fun n7=>ite' (decide (n7 ≥ 0)) (some ([(true,[.d (.list 3 a0_0),.d (.list 2 a0_1)])])) (F125.L4 k (C k) k 0 a0_0 a0_1 a1_0 a1_1 [] []):=(crun k 125 (by kernel_rfl) Tryz.func125 rfl).trans (by kernel_rfl)
theorem F126.run (k:Nat) (a0_0:Int) (a0_1:Ovi.Rows):C (k+1) 126 [.agg [.d (.int .i64 a0_0),.d (.list 1 a0_1)]]=zb ((C k) 11 [.d (.list 1 a0_1)]) fun r4=>zc (resO 3 1 1 false 1 r4 0 0) fun l5=>some ([(true,[.d (.int .i64 a0_0),.row 3 1 l5])]):=(crun k 126 (by kernel_rfl) Tryz.func126 rfl).trans (by kernel_rfl)
theorem F127.run (k:Nat) (a0_0:List UInt8) (a0_1:Int) (a0_2:Bool):C (k+1) 127 [.agg [.d (.str a0_0),.d (.int .i64 a0_1),.d (.bool a0_2)]]=ite' ((↑a0_0.length:Int)==1) (ite' (!zaX a0_0 ([(97:UInt8)]:List UInt8)) (ite' (zaX a0_0 ([(122:UInt8)]:List UInt8)||a0_0==([(122:UInt8)]:List UInt8)) (zb ((C k) 128 [.d (.int .i64 a0_1),.d (.int .i64 1),.d (.int .i64 3)]) fun r5=>zj (resB 1 false 1 r5 0 0) fun b6=>some ([(false,[.d (.bool b6)])])) (some ([(false,[.d (.bool false)])]))) (some ([(false,[.d (.bool false)])]))) (some ([(false,[.d (.bool false)])])):=(crun k 127 (by kernel_rfl) Tryz.func127 rfl).trans (by kernel_rfl)
theorem F128.run (k:Nat) (a0 a1 a2:Int):C (k+1) 128 [.d (.int .i64 a0),.d (.int .i64 a1),.d (.int .i64 a2)]=ite' (decide (a1≤a0)) (some ([(false,[.d (.bool (decide (a0≤a2)))])])) (some ([(false,[.d (.bool false)])])):=(crun k 128 (by kernel_rfl) Tryz.func128 rfl).trans (by kernel_rfl)
theorem F129.run (k:Nat) (a0:Ovi.Rows) (a1:FuncId) (a1c:Ovi.Rows):C (k+1) 129 [.d (.list 1 a0),.d (.fn a1 a1c)]=zb ((C k) 174 [.d (.list 1 a0),.d (.fn a1 a1c)]) fun r5=>zg (resI .i64 1 false 1 r5 0 0) fun n6=>some ([(false,[.d (.bool (decide (n6 ≥ 0)))])]):=(crun k 129 (by kernel_rfl) Tryz.func129 rfl).trans (by kernel_rfl)
theorem F130.run (k:Nat) (a0:Int):C (k+1) 130 [.d (.int .i64 a0)]=zb ((C k) 131 [.d (.int .i64 a0)]) fun r3=>zj (resB 1 false 1 r3 0 0) fun b4=>some ([(false,[.d (.bool !b4)])]):=(crun k 130 (by kernel_rfl) Tryz.func130 rfl).trans (by kernel_rfl)
theorem F131.run (k:Nat) (a0:Int):C (k+1) 131 [.d (.int .i64 a0)]=zb ((C k) 128 [.d (.int .i64 a0),.d (.int .i64 (-40)),.d (.int .i64 9)]) fun r3=>zj (resB 1 false 1 r3 0 0) fun b4=>some ([(false,[.d (.bool b4)])]):=(crun k 131 (by kernel_rfl) Tryz.func131 rfl).trans (by kernel_rfl)
noncomputable def F132.L3 (k:Nat) (call:zi) (n:Nat) (v0:Int) (v1:Ovi.Rows) (v2 v3:Int):Option Res:=zt P hs call 132 k Tryz.f132 [1,1,0,1,0] [] n [(3,.d (.int .i64 v0)),(6,.d (.list 1 v1)),(7,.d (.int .i64 v2)),(8,.d (.int .i64 v3))] []
theorem F132.L3.succ (k:Nat) (call:zi) (n:Nat) (v0:Int) (v1:Ovi.Rows) (v2 v3:Int):F132.L3 k call (n+1) v0 v1 v2 v3=ite' (decide (v3 < v2)) (ite' (inR v3 (List.length v1)) (zg (zm .i64 v1 v3.toNat 0) fun n8=>ite' (n8 != v0) (some ([(false,[.d (.int .i64 n8)])])) (F132.L3 k call n v0 v1 v2 (IntKind.i64.wrap (v3+1)))) none) (some ([(false,[.d (.int .i64 v0)])])):=by kernel_rfl
theorem F132.run (k:Nat) (a0:Ovi.Rows):C (k+1) 132 [.d (.list 1 a0)]=F132.L3 k (C k) k 0 a0 (((List.length a0):Int)) 0:=(crun k 132 (by kernel_rfl) Tryz.func132 rfl).trans (by kernel_rfl)
theorem F133.run (k:Nat) (a0 a1:Int):C (k+1) 133 [.d (.int .i64 a0),.d (.int .i64 a1)]=zb ((C k) 175 [.d (.int .i64 a0)]) fun r4=>zj (resB 1 false 1 r4 0 0) fun b5=>zb ((C k) 175 [.d (.int .i64 a1)]) fun r6=>zj (resB 1 false 1 r6 0 0) fun b7=>ite' b5 (ite' b7 (some ([(false,[.d (.int .i64 0)])])) (some ([(false,[.d (.int .i64 (-1))])]))) (ite' b7 (some ([(false,[.d (.int .i64 1)])])) (ite' (decide (a0 < a1)) (some ([(false,[.d (.int .i64 (-1))])])) (ite' (decide (a0 > a1)) (some ([(false,[.d (.int .i64 1)])])) (some ([(false,[.d (.int .i64 0)])]))))):=(crun k 133 (by kernel_rfl) Tryz.func133 rfl).trans (by kernel_rfl)
noncomputable def F134.L3 (k:Nat) (call:zi) (n:Nat) (v0:Ovi.Rows) (v1 v2:Int) (v3:List (List D)):Option Res:=zt P hs call 134 k Tryz.f134 [1,1,0,1,0] [] n [(3,AV.own 100003 0),(9,.d (.list 1 v0)),(10,.d (.int .i64 v1)),(11,.d (.int .i64 v2))] [(100003,Blk.arr 3 1 0 v3 (0,0,0))]
theorem F134.L3.succ (k:Nat) (call:zi) (n:Nat) (v0:Ovi.Rows) (v1 v2:Int) (v3:List (List D)):F134.L3 k call (n+1) v0 v1 v2 v3=ite' (decide (v2 < v1)) (ite' (inR v2 (List.length v0)) (zg (zm .i64 v0 v2.toNat 0) fun n8=>zb (call 146 [.d (.int .i64 n8)]) fun r9=>zg (resI .i64 2 false 1 r9 0 0) fun n10=>zj (resB 2 false 1 r9 1 0) fun b11=>ite' b11 (ite' (fits (v3.length+[[D.int .i64 n10]].length)) (F134.L3 k call n v0 v1 (IntKind.i64.wrap (v2+1)) (v3++[[D.int .i64 n10]])) none) (F134.L3 k call n v0 v1 (IntKind.i64.wrap (v2+1)) v3)) none) (zb (call 176 [.var 0 0,.d (.int .i64 (↑3:Int)),.d (.list 1 v3)]) fun r8=>zc (resO 3 1 1 false 1 r8 0 0) fun l9=>zb (call 177 [.var 0 0,.d (.int .i64 (↑3:Int)),.d (.list 1 l9)]) fun r10=>zc (resO 3 1 2 false 1 r10 0 0) fun l11=>some ([(false,[.row 3 1 l11])])):=by kernel_rfl
theorem F134.run (k:Nat) (a0:Ovi.Rows):C (k+1) 134 [.d (.list 1 a0)]=F134.L3 k (C k) k a0 (((List.length a0):Int)) 0 []:=(crun k 134 (by kernel_rfl) Tryz.func134 rfl).trans (by kernel_rfl)
noncomputable def F135.L2 (k:Nat) (call:zi) (n:Nat) (v0:Ovi.Rows) (v1:FuncId) (v2:Ovi.Rows) (v3 v4:Int):Option Res:=zt P hs call 135 k Tryz.f135 [1,0,1,0] [] n [(0,.d (.list 5 v0)),(1,.d (.fn v1 v2)),(7,.d (.int .i64 v3)),(8,.d (.int .i64 v4))] []
theorem F135.L2.succ (k:Nat) (call:zi) (n:Nat) (v0:Ovi.Rows) (v1:FuncId) (v2:Ovi.Rows) (v3 v4:Int):F135.L2 k call (n+1) v0 v1 v2 v3 v4=ite' (decide (v4 < v3)) (ite' (inR v4 (List.length v0)) (zc (zw 2 v0 v4.toNat 0) fun l11=>zc (zw 2 v0 v4.toNat 1) fun l12=>zj (zan v0 v4.toNat 2) fun b13=>zg (zm .i64 v0 v4.toNat 3) fun n14=>zg (zm .i64 v0 v4.toNat 4) fun n15=>zb (call v1 (.agg [.d (.list 2 l11),.d (.list 2 l12),.d (.bool b13),.d (.int .i64 n14),.d (.int .i64 n15)]::[].append (List.map (fun (c:List D)=>AV.cap c 0) v2))) fun r16=>zj (resB 1 false 1 r16 0 0) fun b17=>ite' b17 (some ([(false,[.d (.int .i64 v4)])])) (F135.L2 k call n v0 v1 v2 v3 (IntKind.i64.wrap (v4+1)))) none) (some ([(false,[.d (.int .i64 (-1))])])):=by kernel_rfl
theorem F135.run (k:Nat) (a0:Ovi.Rows) (a1:FuncId) (a1c:Ovi.Rows):C (k+1) 135 [.d (.list 5 a0),.d (.fn a1 a1c)]=F135.L2 k (C k) k a0 a1 a1c (((List.length a0):Int)) 0:=(crun k 135 (by kernel_rfl) Tryz.func135 rfl).trans (by kernel_rfl)
theorem F136.run (k:Nat) (a0 a1:Ovi.Rows) (a2:Int):C (k+1) 136 [.d (.list 3 a0),.d (.list 2 a1),.d (.int .i64 a2)]=zb ((C k) 128 [.d (.int .i64 ((List.length a1):Int)),.d (.int .i64 1),.d (.int .i64 a2)]) fun r5=>zj (resB 1 false 1 r5 0 0) fun b6=>ite' b6 (zb ((C k) 139 [.d (.list 2 a1),.d (.fn 178 [[D.list 3 a0]])]) fun r7=>zj (resB 1 false 1 r7 0 0) fun b8=>some ([(false,[.d (.bool !b8)])])) (some ([(false,[.d (.bool false)])])):=(crun k 136 (by kernel_rfl) Tryz.func136 rfl).trans (by kernel_rfl)
noncomputable def F137.L3 (k:Nat) (call:zi) (n:Nat) (v0:Ovi.Rows) (v1 v2:Int) (v3:List (List D)):Option Res:=zt P hs call 137 k Tryz.f137 [1,1,0,1,0] [] n [(3,AV.own 100003 0),(9,.d (.list 2 v0)),(10,.d (.int .i64 v1)),(11,.d (.int .i64 v2))] [(100003,Blk.arr 3 1 0 v3 (0,0,0))]
noncomputable def F137.L6 (k:Nat) (call:zi) (k3 n:Nat) (v0:Ovi.Rows) (v1 v2:Int) (v3:Ovi.Rows) (v4 v5:Int) (v6:List (List D)):Option Res:=zt P hs call 137 k Tryz.f137 [1,1,0,1,0,0,1,1,0,0,1,1,0] [k3] n [(3,AV.own 100003 0),(9,.d (.list 2 v0)),(10,.d (.int .i64 v1)),(11,.d (.int .i64 v2)),(16,.d (.list 1 v3)),(17,.d (.int .i64 v4)),(18,.d (.int .i64 v5))] [(100003,Blk.arr 3 1 0 v6 (0,0,0))]
theorem F137.L3.succ (k:Nat) (call:zi) (n:Nat) (v0:Ovi.Rows) (v1 v2:Int) (v3:List (List D)):F137.L3 k call (n+1) v0 v1 v2 v3=ite' (decide (v2 < v1)) (ite' (inR v2 (List.length v0)) (zg (zm .i64 v0 v2.toNat 0) fun n8=>zc (zw 1 v0 v2.toNat 1) fun l9=>F137.L6 k call n k v0 v1 v2 l9 (((List.length l9):Int)) 0 v3) none) (zb (call 176 [.var 0 0,.d (.int .i64 (↑3:Int)),.d (.list 1 v3)]) fun r8=>zc (resO 3 1 1 false 1 r8 0 0) fun l9=>zb (call 177 [.var 0 0,.d (.int .i64 (↑3:Int)),.d (.list 1 l9)]) fun r10=>zc (resO 3 1 2 false 1 r10 0 0) fun l11=>some ([(false,[.row 3 1 l11])])):=by kernel_rfl
theorem F137.L6.succ (k:Nat) (call:zi) (k3 n:Nat) (v0:Ovi.Rows) (v1 v2:Int) (v3:Ovi.Rows) (v4 v5:Int) (v6:List (List D)):F137.L6 k call k3 (n+1) v0 v1 v2 v3 v4 v5 v6=ite' (decide (v5 < v4)) (ite' (inR v5 (List.length v3)) (zg (zm .i64 v3 v5.toNat 0) fun n12=>ite' (decide (n12 ≥ 0)) (ite' (fits (v6.length+[[D.int .i64 n12]].length)) (F137.L6 k call k3 n v0 v1 v2 v3 v4 (IntKind.i64.wrap (v5+1)) (v6++[[D.int .i64 n12]])) none) (F137.L6 k call k3 n v0 v1 v2 v3 v4 (IntKind.i64.wrap (v5+1)) v6)) none) (F137.L3 k call k3 v0 v1 (IntKind.i64.wrap (v2+1)) v6):=by kernel_rfl
theorem F137.run (k:Nat) (a0:Ovi.Rows):C (k+1) 137 [.d (.list 2 a0)]=F137.L3 k (C k) k a0 (((List.length a0):Int)) 0 []:=(crun k 137 (by kernel_rfl) Tryz.func137 rfl).trans (by kernel_rfl)
theorem F138.run (k:Nat) (a0:Ovi.Rows) (a1:Int):C (k+1) 138 [.d (.list 1 a0),.d (.int .i64 a1)]=zb ((C k) 180 [.d (.list 1 a0),.d (.int .i64 a1)]) fun r4=>zg (resI .i64 1 false 1 r4 0 0) fun n5=>some ([(false,[.d (.bool (decide (n5 ≥ 0)))])]):=(crun k 138 (by kernel_rfl) Tryz.func138 rfl).trans (by kernel_rfl)
theorem F139.run (k:Nat) (a0:Ovi.Rows) (a1:FuncId) (a1c:Ovi.Rows):C (k+1) 139 [.d (.list 2 a0),.d (.fn a1 a1c)]=zb ((C k) 181 [.d (.list 2 a0),.d (.fn a1 a1c)]) fun r5=>zg (resI .i64 1 false 1 r5 0 0) fun n6=>some ([(false,[.d (.bool (decide (n6 ≥ 0)))])]):=(crun k 139 (by kernel_rfl) Tryz.func139 rfl).trans (by kernel_rfl)
theorem F140.run (k:Nat) (a0_0:Int) (a0_1 c0_0:Ovi.Rows):C (k+1) 140 [.agg [.d (.int .i64 a0_0),.d (.list 1 a0_1)],AV.cap [D.list 3 c0_0] 0]=ite' (inR a0_0 (List.length c0_0)) (zj (zan c0_0 a0_0.toNat 2) fun b5=>some ([(false,[.d (.bool b5)])])) none:=(crun k 140 (by kernel_rfl) Tryz.func140 rfl).trans (by kernel_rfl)
theorem F141.run (k:Nat) (a0_0:Int) (a0_1:Ovi.Rows):C (k+1) 141 [.agg [.d (.int .i64 a0_0),.d (.list 1 a0_1)]]=zb ((C k) 87 [.d (.list 1 a0_1)]) fun r4=>zc (resO 3 1 1 false 1 r4 0 0) fun l5=>some ([(true,[.d (.int .i64 a0_0),.row 3 1 l5])]):=(crun k 141 (by kernel_rfl) Tryz.func141 rfl).trans (by kernel_rfl)
noncomputable def F142.L5 (k:Nat) (call:zi) (n:Nat) (v0 v1:Int) (v2:List (List D)) (v3:Ovi.Rows) (v4:Nat):Option Res:=zt P hs call 142 k Tryz.f142 [1,1,1,0,1,0] [] n [(5,AV.own 100005 0),(18,AV.own 100018 0),(19,.d (.int .i64 v0)),(20,.d (.int .i64 v1))] [(100005,Blk.arr 27 1 0 v2 (1,0,0)),(100018,Blk.arr 27 1 0 v3 (1,v4,0))]
theorem F142.L5.succ (k:Nat) (call:zi) (n:Nat) (v0 v1:Int) (v2:List (List D)) (v3:Ovi.Rows) (v4:Nat):F142.L5 k call (n+1) v0 v1 v2 v3 v4=ite' (decide (v1 < v0)) (ite' (inR v1 (List.length v3)) (zc (zw 1 v3 v1.toNat 0) fun l11=>zb (call 185 [.d (.list 1 v2),.d (.list 1 l11)]) fun r12=>zj (resB 1 false 1 r12 0 0) fun b13=>ite' (!b13) (ite' (v4.ble v1.toNat) (ite' (fits (v2.length+[[D.list 1 l11]].length)) (F142.L5 k call n v0 (IntKind.i64.wrap (v1+1)) (v2++[[D.list 1 l11]]) v3 ((v1.toNat+1,0).fst)) none) (ite' (fits (v2.length+[[D.list 1 l11]].length)) none none)) (F142.L5 k call n v0 (IntKind.i64.wrap (v1+1)) v2 v3 ((v4,0).fst))) none) (some ([(false,[.frow 27 1 1 v2])])):=by kernel_rfl
theorem F142.run (k:Nat) (a0_0 a0_1 a1:Ovi.Rows):C (k+1) 142 [.agg [.d (.list 3 a0_0),.d (.list 2 a0_1)],.d (.list 2 a1)]=zb ((C k) 182 [.agg [.d (.list 3 a0_0),.d (.list 2 a0_1)],.d (.list 2 a1)]) fun r5=>zj (resB 1 false 1 r5 0 0) fun b6=>ite' (!b6) (some ([(false,[.nil])])) (zb ((C k) 184 []) fun r7=>zc (resO 3 1 1 false 1 r7 0 0) fun l8=>zb ((C k) 183 [.d (.list 2 a0_1),.d (.list 2 a1),.d (.list 1 l8)]) fun r9=>zc (resF 27 1 1 1 false 1 r9 0 0) fun l10=>F142.L5 k (C k) k (((List.length l10):Int)) 0 [] l10 0):=(crun k 142 (by kernel_rfl) Tryz.func142 rfl).trans (by kernel_rfl)
noncomputable def F143.L5 (k:Nat) (call:zi) (n:Nat) (v0 v1:Ovi.Rows) (v2 v3:Int) (v4 v5 v6 v7:Ovi.Rows) (v8:Bool) (v9 v10:Int) (v11:Ovi.Rows):Option Res:=zt P hs call 143 k Tryz.f143 [1,1,1,0,1,0] [] n [(2,.d (.list 1 v0)),(3,.var 192 0),(4,.var 256 0),(7,AV.own 100007 0),(32,.d (.list 1 v1)),(33,.d (.int .i64 v2)),(34,.d (.int .i64 v3))] [(192,Blk.var [.d (.list 3 v4),.d (.list 2 v5)]),(256,Blk.var [.d (.list 2 v6),.d (.list 2 v7),.d (.bool v8),.d (.int .i64 v9),.d (.int .i64 v10)]),(100007,Blk.arr 3 1 0 v11 (0,0,0))]
noncomputable def F143.L11 (k:Nat) (call:zi) (n:Nat) (v0 v1:Ovi.Rows) (v2 v3:Int) (v4 v5:Ovi.Rows):Option Res:=zt P hs call 143 k Tryz.f143 [1,1,1,1,0,1,0] [] n [(2,.d (.list 1 v0)),(3,.var 192 0),(47,.d (.list 2 v1)),(48,.d (.int .i64 v2)),(49,.d (.int .i64 v3))] [(192,Blk.var [.d (.list 3 v4),.d (.list 2 v5)])]
theorem F143.L5.succ (k:Nat) (call:zi) (n:Nat) (v0 v1:Ovi.Rows) (v2 v3:Int) (v4 v5 v6 v7:Ovi.Rows) (v8:Bool) (v9 v10:Int) (v11:Ovi.Rows):F143.L5 k call (n+1) v0 v1 v2 v3 v4 v5 v6 v7 v8 v9 v10 v11=ite' (decide (v3 < v2)) (ite' (inR v3 (List.length v1)) (zg (zm .i64 v1 v3.toNat 0) fun n23=>zb (call 138 [.d (.list 1 v11),.d (.int .i64 v3)]) fun r24=>zj (resB 1 false 1 r24 0 0) fun b25=>ite' (!(n23 != 10)==b25) (some ([(false,[.d (.bool false)])])) (F143.L5 k call n v0 v1 v2 (IntKind.i64.wrap (v3+1)) v4 v5 v6 v7 v8 v9 v10 v11)) none) (F143.L11 k call k v0 v6 (((List.length v6):Int)) 0 v4 v5):=by kernel_rfl
theorem F143.L11.succ (k:Nat) (call:zi) (n:Nat) (v0 v1:Ovi.Rows) (v2 v3:Int) (v4 v5:Ovi.Rows):F143.L11 k call (n+1) v0 v1 v2 v3 v4 v5=ite' (decide (v3 < v2)) (ite' (inR v3 (List.length v1)) (zg (zm .i64 v1 v3.toNat 0) fun n17=>zc (zw 1 v1 v3.toNat 1) fun l18=>zb (call 91 [.agg [.d (.int .i64 n17),.d (.list 1 l18)],.d (.list 1 v0)]) fun r19=>zg (resI .i64 2 true 2 r19 0 0) fun n20=>zc (resO 3 1 2 true 2 r19 0 1) fun l21=>zj (resB 2 false 1 r19 1 0) fun b22=>ite' (!b22) (some ([(false,[.d (.bool false)])])) (zb (call 186 [.d (.list 2 v5),.agg [.d (.int .i64 n20),.d (.list 1 l21)]]) fun r23=>zj (resB 1 false 1 r23 0 0) fun b24=>ite' (!b24) (some ([(false,[.d (.bool false)])])) (F143.L11 k call n v0 v1 v2 (IntKind.i64.wrap (v3+1)) v4 v5))) none) (some ([(false,[.d (.bool true)])])):=by kernel_rfl
theorem F143.run (k:Nat) (a0_0 a0_1 a1_0 a1_1:Ovi.Rows) (a1_2:Bool) (a1_3 a1_4:Int) (a2:Ovi.Rows):C (k+1) 143 [.agg [.d (.list 3 a0_0),.d (.list 2 a0_1)],.agg [.d (.list 2 a1_0),.d (.list 2 a1_1),.d (.bool a1_2),.d (.int .i64 a1_3),.d (.int .i64 a1_4)],.d (.list 1 a2)]=zb ((C k) 40 [.agg [.d (.list 3 a0_0),.d (.list 2 a0_1)]]) fun r10=>zj (resB 1 false 1 r10 0 0) fun b11=>ite' (!b11) (some ([(false,[.d (.bool false)])])) (zb ((C k) 81 [.d (.list 3 a0_0),.agg [.d (.list 2 a1_0),.d (.list 2 a1_1),.d (.bool a1_2),.d (.int .i64 a1_3),.d (.int .i64 a1_4)]]) fun r12=>zj (resB 1 false 1 r12 0 0) fun b13=>ite' (!b13) (some ([(false,[.d (.bool false)])])) (ite' (((List.length a2):Int) != 5) (some ([(false,[.d (.bool false)])])) (zb ((C k) 137 [.d (.list 2 a1_0)]) fun r14=>zc (resO 3 1 1 false 1 r14 0 0) fun l15=>F143.L5 k (C k) k a2 a2 (((List.length a2):Int)) 0 a0_0 a0_1 a1_0 a1_1 a1_2 a1_3 a1_4 l15))):=(crun k 143 (by kernel_rfl) Tryz.func143 rfl).trans (by kernel_rfl)
theorem F144.run (k:Nat) (a0_0 a0_1 a1 a2:Ovi.Rows):C (k+1) 144 [.agg [.d (.list 3 a0_0),.d (.list 2 a0_1)],.d (.list 2 a1),.d (.list 1 a2)]=zb ((C k) 182 [.agg [.d (.list 3 a0_0),.d (.list 2 a0_1)],.d (.list 2 a1)]) fun r6=>zj (resB 1 false 1 r6 0 0) fun b7=>ite' b7 (ite' (((List.length a2):Int)==5) (zb ((C k) 87 [.d (.list 1 a2)]) fun r8=>zc (resO 3 1 1 false 1 r8 0 0) fun l9=>zb ((C k) 183 [.d (.list 2 a0_1),.d (.list 2 a1),.d (.list 1 l9)]) fun r10=>zc (resF 27 1 1 1 false 1 r10 0 0) fun l11=>some ([(false,[.d (.bool (decide (((List.length l11):Int) > 0)))])])) (some ([(false,[.d (.bool false)])]))) (some ([(false,[.d (.bool false)])])):=(crun k 144 (by kernel_rfl) Tryz.func144 rfl).trans (by kernel_rfl)
theorem F145.run (k:Nat) (a0:Int):C (k+1) 145 [.d (.int .i64 a0)]=some ([(false,[.d (.bool (decide (a0 < 0)))])]):=(crun k 145 (by kernel_rfl) Tryz.func145 rfl).trans (by kernel_rfl)
theorem F146.run (k:Nat) (a0:Int):C (k+1) 146 [.d (.int .i64 a0)]=zb ((C k) 128 [.d (.int .i64 (IntKind.i64.wrap ((-1) - a0))),.d (.int .i64 0),.d (.int .i64 39)]) fun r3=>zj (resB 1 false 1 r3 0 0) fun b4=>ite' (!b4) (some ([(false,[.d (.int .i64 0)]),(false,[.d (.bool false)])])) (some ([(false,[.d (.int .i64 (IntKind.i64.wrap ((-1) - a0)))]),(false,[.d (.bool true)])])):=(crun k 146 (by kernel_rfl) Tryz.func146 rfl).trans (by kernel_rfl)
noncomputable def F147.L5 (k:Nat) (call:zi) (n:Nat) (v0:Ovi.Rows) (v1 v2:Int) (v3 v4:Ovi.Rows) (v5 v6:List (List D)) (v7 v8:Ovi.Rows):Option Res:=zt P hs call 147 k Tryz.f147 [1,1,1,0,1,0] [] n [(2,.var 128 0),(4,.var 256 0),(6,.var 384 0),(21,.d (.list 2 v0)),(22,.d (.int .i64 v1)),(23,.d (.int .i64 v2))] [(128,Blk.var [.d (.list 1 v3),.d (.list 1 v4)]),(256,Blk.var [AV.own 200064 0,AV.own 200065 0]),(200064,Blk.arr 112 3 0 v5 (0,0,0)),(200065,Blk.arr 114 2 0 v6 (1,0,0)),(384,Blk.var [AV.own 200096 0,AV.own 200097 0]),(200096,Blk.arr 112 3 0 v7 (0,0,0)),(200097,Blk.arr 114 2 0 v8 (1,0,0))]
theorem F147.L5.succ (k:Nat) (call:zi) (n:Nat) (v0:Ovi.Rows) (v1 v2:Int) (v3 v4:Ovi.Rows) (v5 v6:List (List D)) (v7 v8:Ovi.Rows):F147.L5 k call (n+1) v0 v1 v2 v3 v4 v5 v6 v7 v8=ite' (decide (v2 < v1)) (ite' (inR v2 (List.length v0)) (zg (zm .i64 v0 v2.toNat 0) fun n16=>zc (zw 1 v0 v2.toNat 1) fun l17=>zb (call 188 [.agg [.d (.list 1 v3),.d (.list 1 v4)],.agg [.d (.int .i64 n16),.d (.list 1 l17)]]) fun r18=>zg (resI .i64 1 true 2 r18 0 0) fun n19=>zc (resO 3 1 1 true 2 r18 0 1) fun l20=>ite' (inR v2 (List.length v8)) (F147.L5 k call n v0 v1 (IntKind.i64.wrap (v2+1)) v3 v4 v5 v6 v7 (zai v8 v2.toNat 0 [D.int .i64 n19,D.list 1 l20])) none) none) (zb (call 92 [.d (.list 2 v8)]) fun r16=>zc (resF 114 2 1 1 false 1 r16 0 0) fun l17=>some ([(true,[.row 112 3 v7,.frow 114 2 1 l17]),(false,[.d (.bool true)])])):=by kernel_rfl
theorem F147.run (k:Nat) (a0_0 a0_1 a1_0 a1_1:Ovi.Rows):C (k+1) 147 [.agg [.d (.list 1 a0_0),.d (.list 1 a0_1)],.agg [.d (.list 3 a1_0),.d (.list 2 a1_1)]]=zb ((C k) 187 [.agg [.d (.list 1 a0_0),.d (.list 1 a0_1)]]) fun r6=>zj (resB 1 false 1 r6 0 0) fun b7=>ite' (!b7) (some ([(true,[.nil,.nil]),(false,[.d (.bool false)])])) (zb ((C k) 40 [.agg [.d (.list 3 a1_0),.d (.list 2 a1_1)]]) fun r8=>zj (resB 1 false 1 r8 0 0) fun b9=>ite' (!b9) (some ([(true,[.nil,.nil]),(false,[.d (.bool false)])])) (zb ((C k) 42 [.agg [.d (.list 3 a1_0),.d (.list 2 a1_1)]]) fun r10=>zc (resO 112 3 1 true 2 r10 0 0) fun l11=>zc (resF 114 2 1 1 true 2 r10 0 1) fun l12=>F147.L5 k (C k) k a1_1 (((List.length a1_1):Int)) 0 a0_0 a0_1 [] [] l11 l12)):=(crun k 147 (by kernel_rfl) Tryz.func147 rfl).trans (by kernel_rfl)
noncomputable def F148.L3 (k:Nat) (call:zi) (n:Nat) (v0:Ovi.Rows) (v1 v2:Int) (v3:List (List D)):Option Res:=zt P hs call 148 k Tryz.f148 [1,1,0,1,0] [] n [(3,AV.own 100003 0),(8,.d (.list 2 v0)),(9,.d (.int .i64 v1)),(10,.d (.int .i64 v2))] [(100003,Blk.arr 3 1 0 v3 (0,0,0))]
theorem F148.L3.succ (k:Nat) (call:zi) (n:Nat) (v0:Ovi.Rows) (v1 v2:Int) (v3:List (List D)):F148.L3 k call (n+1) v0 v1 v2 v3=ite' (decide (v2 < v1)) (ite' (inR v2 (List.length v0)) (zg (zm .i64 v0 v2.toNat 0) fun n9=>zc (zw 1 v0 v2.toNat 1) fun l10=>ite' (fits (v3.length+List.length l10)) (F148.L3 k call n v0 v1 (IntKind.i64.wrap (v2+1)) (v3++l10)) none) none) (zb (call 134 [.d (.list 1 v3)]) fun r9=>zc (resO 3 1 1 false 1 r9 0 0) fun l10=>some ([(false,[.row 3 1 l10])])):=by kernel_rfl
theorem F148.run (k:Nat) (a0_0 a0_1:Ovi.Rows):C (k+1) 148 [.agg [.d (.list 3 a0_0),.d (.list 2 a0_1)]]=F148.L3 k (C k) k a0_1 (((List.length a0_1):Int)) 0 []:=(crun k 148 (by kernel_rfl) Tryz.func148 rfl).trans (by kernel_rfl)
noncomputable def F149.L3 (k:Nat) (call:zi) (n:Nat) (v0:Bool) (v1 v2:Int) (v3:Ovi.Rows) (v4:List (List D)) (v5:Ovi.Rows):Option Res:=zt P hs call 149 k Tryz.f149 [1,1,0,1,0] [] n [(1,.d (.bool v0)),(5,AV.own 100005 0),(6,AV.own 100006 0),(15,AV.own 100015 0),(16,.d (.int .i64 v1)),(17,.d (.int .i64 v2))] [(100005,Blk.arr 3 1 0 v3 (0,0,0)),(100006,Blk.arr 3 1 0 v4 (0,0,0)),(100015,Blk.arr 3 1 0 v5 (0,0,0))]
theorem F149.L3.succ (k:Nat) (call:zi) (n:Nat) (v0:Bool) (v1 v2:Int) (v3:Ovi.Rows) (v4:List (List D)) (v5:Ovi.Rows):F149.L3 k call (n+1) v0 v1 v2 v3 v4 v5=ite' (decide (v2 < v1)) (ite' (inR v2 (List.length v5)) (zg (zm .i64 v5 v2.toNat 0) fun n15=>zb (call 138 [.d (.list 1 v3),.d (.int .i64 n15)]) fun r16=>zj (resB 1 false 1 r16 0 0) fun b17=>ite' (b17==v0) (ite' (fits (v4.length+[[D.int .i64 n15]].length)) (F149.L3 k call n v0 v1 (IntKind.i64.wrap (v2+1)) v3 (v4++[[D.int .i64 n15]]) v5) none) (F149.L3 k call n v0 v1 (IntKind.i64.wrap (v2+1)) v3 v4 v5)) none) (some ([(false,[.row 3 1 v4])])):=by kernel_rfl
theorem F149.run (k:Nat) (a0_0 a0_1:Ovi.Rows) (a0_2:Bool) (a0_3 a0_4:Int) (a1:Bool):C (k+1) 149 [.agg [.d (.list 2 a0_0),.d (.list 2 a0_1),.d (.bool a0_2),.d (.int .i64 a0_3),.d (.int .i64 a0_4)],.d (.bool a1)]=zb ((C k) 137 [.d (.list 2 a0_0)]) fun r8=>zc (resO 3 1 1 false 1 r8 0 0) fun l9=>zb ((C k) 137 [.d (.list 2 a0_1)]) fun r10=>zc (resO 3 1 1 false 1 r10 0 0) fun l11=>F149.L3 k (C k) k a1 (((List.length l11):Int)) 0 l9 [] l11:=(crun k 149 (by kernel_rfl) Tryz.func149 rfl).trans (by kernel_rfl)
theorem F152.run (k:Nat) (a0_0:Int) (a0_1:Ovi.Rows) (a1_0:Int) (a1_1:Ovi.Rows):C (k+1) 152 [.agg [.d (.int .i64 a0_0),.d (.list 1 a0_1)],.agg [.d (.int .i64 a1_0),.d (.list 1 a1_1)]]=zb ((C k) 77 [.agg [.d (.int .i64 a0_0),.d (.list 1 a0_1)],.agg [.d (.int .i64 a1_0),.d (.list 1 a1_1)]]) fun r6=>zg (resI .i64 1 false 1 r6 0 0) fun n7=>some ([(false,[.d (.bool (n7==0))])]):=(crun k 152 (by kernel_rfl) Tryz.func152 rfl).trans (by kernel_rfl)
theorem F153.run (k:Nat) (a0_0:Int) (a0_1:Ovi.Rows) (a1_0:Int) (a1_1:Ovi.Rows):C (k+1) 153 [.agg [.d (.int .i64 a0_0),.d (.list 1 a0_1)],.agg [.d (.int .i64 a1_0),.d (.list 1 a1_1)]]=ite' (a0_0 != a1_0) (some ([(false,[.d (.bool false)])])) (zb ((C k) 16 [.d (.list 1 a0_1),.d (.list 1 a1_1)]) fun r6=>zj (resB 1 false 1 r6 0 0) fun b7=>ite' (!b7) (some ([(false,[.d (.bool false)])])) (some ([(false,[.d (.bool true)])]))):=(crun k 153 (by kernel_rfl) Tryz.func153 rfl).trans (by kernel_rfl)
noncomputable def F154.L3 (k:Nat) (call:zi) (n:Nat) (v0:Ovi.Rows) (v1:List (List D)) (v2:Int):Option Res:=zt P hs call 154 k Tryz.f154 [1,1,0,1,0] [] n [(0,.d (.list 2 v0)),(3,.d (.list 1 v1)),(4,.d (.int .i64 v2))] []
noncomputable def F154.L6 (k:Nat) (call:zi) (k3 n:Nat) (v0:Ovi.Rows) (v1:List (List D)) (v2 v3:Int):Option Res:=zt P hs call 154 k Tryz.f154 [1,1,0,1,0,0,1,0,0,1,0] [k3] n [(0,.d (.list 2 v0)),(3,.d (.list 1 v1)),(4,.d (.int .i64 v2)),(5,.d (.int .i64 v3))] []
theorem F154.L3.succ (k:Nat) (call:zi) (n:Nat) (v0:Ovi.Rows) (v1:List (List D)) (v2:Int):F154.L3 k call (n+1) v0 v1 v2=ite' (decide (v2 < ((List.length v0):Int))) (F154.L6 k call n k v0 v1 v2 0) (some ([(false,[.d (.list 1 v1)])])):=by kernel_rfl
theorem F154.L6.succ (k:Nat) (call:zi) (k3 n:Nat) (v0:Ovi.Rows) (v1:List (List D)) (v2 v3:Int):F154.L6 k call k3 (n+1) v0 v1 v2 v3=ite' (inR v2 (List.length v0)) (zc (zw 1 v0 v2.toNat 1) fun l9=>ite' (decide (v3 < ((List.length l9):Int))) (ite' (inR v2 (List.length v0)) (zc (zw 1 v0 v2.toNat 1) fun l10=>ite' (inR v3 (List.length l10)) (zg (zm .i64 l10 v3.toNat 0) fun n11=>ite' (decide (n11 ≥ 0)) (ite' (inR v2 (List.length v0)) (zc (zw 1 v0 v2.toNat 1) fun l12=>ite' (inR v3 (List.length l12)) (zg (zm .i64 l12 v3.toNat 0) fun n13=>zb (call 160 [.d (.list 1 v1),.d (.int .i64 n13)]) fun r14=>zc (resL 1 1 false 1 r14 0 0) fun l15=>F154.L6 k call k3 n v0 l15 v2 (IntKind.i64.wrap (v3+1))) none) none) (F154.L6 k call k3 n v0 v1 v2 (IntKind.i64.wrap (v3+1)))) none) none) (F154.L3 k call k3 v0 v1 (IntKind.i64.wrap (v2+1)))) none:=by kernel_rfl
theorem F154.run (k:Nat) (a0:Ovi.Rows):C (k+1) 154 [.d (.list 2 a0)]=F154.L3 k (C k) k a0 [] 0:=(crun k 154 (by kernel_rfl) Tryz.func154 rfl).trans (by kernel_rfl)
noncomputable def F155.L4 (k:Nat) (call:zi) (n:Nat) (v0 v1:Int) (v2:Ovi.Rows):Option Res:=zt P hs call 155 k Tryz.f155 [1,1,0,1,0] [] n [(3,.var 192 0),(5,.d (.int .i64 v0))] [(192,Blk.var [.d (.int .i64 v1),.d (.list 1 v2)])]
theorem F155.L4.succ (k:Nat) (call:zi) (n:Nat) (v0 v1:Int) (v2:Ovi.Rows):F155.L4 k call (n+1) v0 v1 v2=ite' (decide (v0 < ((List.length v2):Int))) (ite' (inR v0 (List.length v2)) (zg (zm .i64 v2 v0.toNat 0) fun n9=>zb (call 157 [.d (.int .i64 n9),.d (.int .i64 (-10)),.d (.int .i64 4)]) fun r10=>zj (resB 1 false 1 r10 0 0) fun b11=>ite' (!b11) (some ([(false,[.d (.bool false)])])) (F155.L4 k call n (IntKind.i64.wrap (v0+1)) v1 v2)) none) (some ([(false,[.d (.bool true)])])):=by kernel_rfl
theorem F155.run (k:Nat) (a0:Ovi.Rows) (a1_0:Int) (a1_1:Ovi.Rows):C (k+1) 155 [.d (.list 3 a0),.agg [.d (.int .i64 a1_0),.d (.list 1 a1_1)]]=zb ((C k) 107 [.d (.list 3 a0)]) fun r5=>zj (resB 1 false 1 r5 0 0) fun b6=>ite' (!b6) (some ([(false,[.d (.bool false)])])) (zb ((C k) 157 [.d (.int .i64 a1_0),.d (.int .i64 0),.d (.int .i64 (IntKind.i64.wrap (((List.length a0):Int) - 1)))]) fun r7=>zj (resB 1 false 1 r7 0 0) fun b8=>ite' (!b8) (some ([(false,[.d (.bool false)])])) (ite' (inR a1_0 (List.length a0)) (zg (zm .i64 a0 a1_0.toNat 1) fun n9=>ite' (((List.length a1_1):Int) != n9) (some ([(false,[.d (.bool false)])])) (F155.L4 k (C k) k 0 a1_0 a1_1)) none)):=(crun k 155 (by kernel_rfl) Tryz.func155 rfl).trans (by kernel_rfl)
noncomputable def F156.L2 (k:Nat) (call:zi) (n:Nat) (v0:Ovi.Rows) (v1 v2:Int):Option Res:=zt P hs call 156 k Tryz.f156 [1,0,1,0] [] n [(0,.d (.list 1 v0)),(1,.d (.int .i64 v1)),(5,.d (.int .i64 v2))] []
theorem F156.L2.succ (k:Nat) (call:zi) (n:Nat) (v0:Ovi.Rows) (v1 v2:Int):F156.L2 k call (n+1) v0 v1 v2=ite' (decide (v2 < ((List.length v0):Int))) (ite' (inR v2 (List.length v0)) (zg (zm .i64 v0 v2.toNat 0) fun n8=>ite' (n8==v1) (some ([(false,[.d (.bool true)])])) (F156.L2 k call n v0 v1 (IntKind.i64.wrap (v2+1)))) none) (some ([(false,[.d (.bool false)])])):=by kernel_rfl
theorem F156.run (k:Nat) (a0:Ovi.Rows) (a1:Int):C (k+1) 156 [.d (.list 1 a0),.d (.int .i64 a1)]=F156.L2 k (C k) k a0 a1 0:=(crun k 156 (by kernel_rfl) Tryz.func156 rfl).trans (by kernel_rfl)
theorem F157.run (k:Nat) (a0 a1 a2:Int):C (k+1) 157 [.d (.int .i64 a0),.d (.int .i64 a1),.d (.int .i64 a2)]=ite' (decide (a0 ≥ a1)) (some ([(false,[.d (.bool (decide (a0≤a2)))])])) (some ([(false,[.d (.bool false)])])):=(crun k 157 (by kernel_rfl) Tryz.func157 rfl).trans (by kernel_rfl)
theorem F159.run (k:Nat) (a0:Int):C (k+1) 159 [.d (.int .i64 a0)]=zb ((C k) 119 [.d (.int .i64 a0)]) fun r3=>zg (resI .i64 2 false 1 r3 0 0) fun n4=>zj (resB 2 false 1 r3 1 0) fun b5=>ite' b5 (some ([(false,[.d (.bool true)])])) (zb ((C k) 157 [.d (.int .i64 a0),.d (.int .i64 0),.d (.int .i64 9)]) fun r6=>zj (resB 1 false 1 r6 0 0) fun b7=>some ([(false,[.d (.bool b7)])])):=(crun k 159 (by kernel_rfl) Tryz.func159 rfl).trans (by kernel_rfl)
noncomputable def F160.L2 (k:Nat) (call:zi) (n:Nat) (v0:Ovi.Rows) (v1 v2:Int):Option Res:=zt P hs call 160 k Tryz.f160 [1,1,0,0] [] n [(0,.d (.list 1 v0)),(1,.d (.int .i64 v1)),(5,.d (.int .i64 v2))] []
theorem F160.L2.succ (k:Nat) (call:zi) (n:Nat) (v0:Ovi.Rows) (v1 v2:Int):F160.L2 k call (n+1) v0 v1 v2=ite' (decide (v2 < ((List.length v0):Int))) (ite' (inR v2 (List.length v0)) (zg (zm .i64 v0 v2.toNat 0) fun n8=>ite' (decide (n8 < v1)) (F160.L2 k call n v0 v1 (IntKind.i64.wrap (v2+1))) (ite' (decide (v2 < ((List.length v0):Int))) (ite' (inR v2 (List.length v0)) (zg (zm .i64 v0 v2.toNat 0) fun n9=>ite' (n9==v1) (some ([(false,[.d (.list 1 v0)])])) (ite' (inS v2 ((List.length v0):Int) (List.length v0)) (ite' (fits ([[D.int .i64 v1]].length+(List.drop v2.toNat v0).length)) (ite' (inS 0 v2 (List.length v0)) (ite' (fits (List.take v2.toNat v0).length) (ite' (fits ((List.take v2.toNat v0).length+List.length ([[D.int .i64 v1]]++List.drop v2.toNat v0))) (some ([(false,[.row 3 1 (List.take v2.toNat v0++([[D.int .i64 v1]]++List.drop v2.toNat v0))])])) none) none) none) none) none)) none) (ite' (inS v2 ((List.length v0):Int) (List.length v0)) (ite' (fits ([[D.int .i64 v1]].length+(List.drop v2.toNat v0).length)) (ite' (inS 0 v2 (List.length v0)) (ite' (fits (List.take v2.toNat v0).length) (ite' (fits ((List.take v2.toNat v0).length+List.length ([[D.int .i64 v1]]++List.drop v2.toNat v0))) (some ([(false,[.row 3 1 (List.take v2.toNat v0++([[D.int .i64 v1]]++List.drop v2.toNat v0))])])) none) none) none) none) none))) none) (ite' (decide (v2 < ((List.length v0):Int))) (ite' (inR v2 (List.length v0)) (zg (zm .i64 v0 v2.toNat 0) fun n8=>ite' (n8==v1) (some ([(false,[.d (.list 1 v0)])])) (ite' (inS v2 ((List.length v0):Int) (List.length v0)) (ite' (fits ([[D.int .i64 v1]].length+(List.drop v2.toNat v0).length)) (ite' (inS 0 v2 (List.length v0)) (ite' (fits (List.take v2.toNat v0).length) (ite' (fits ((List.take v2.toNat v0).length+List.length ([[D.int .i64 v1]]++List.drop v2.toNat v0))) (some ([(false,[.row 3 1 (List.take v2.toNat v0++([[D.int .i64 v1]]++List.drop v2.toNat v0))])])) none) none) none) none) none)) none) (ite' (inS v2 ((List.length v0):Int) (List.length v0)) (ite' (fits ([[D.int .i64 v1]].length+(List.drop v2.toNat v0).length)) (ite' (inS 0 v2 (List.length v0)) (ite' (fits (List.take v2.toNat v0).length) (ite' (fits ((List.take v2.toNat v0).length+List.length ([[D.int .i64 v1]]++List.drop v2.toNat v0))) (some ([(false,[.row 3 1 (List.take v2.toNat v0++([[D.int .i64 v1]]++List.drop v2.toNat v0))])])) none) none) none) none) none)):=by kernel_rfl
theorem F160.run (k:Nat) (a0:Ovi.Rows) (a1:Int):C (k+1) 160 [.d (.list 1 a0),.d (.int .i64 a1)]=F160.L2 k (C k) k a0 a1 0:=(crun k 160 (by kernel_rfl) Tryz.func160 rfl).trans (by kernel_rfl)
theorem F161.run (k:Nat) (a0_0:List UInt8) (a0_1:Int) (a0_2:Bool):C (k+1) 161 [.agg [.d (.str a0_0),.d (.int .i64 a0_1),.d (.bool a0_2)]]=ite' ((↑a0_0.length:Int)==1) (ite' (inR 0 a0_0.length) (ite' (decide (zbe a0_0 0 ≥ 97)) (ite' (inR 0 a0_0.length) (ite' (decide (zbe a0_0 0≤122)) (zb ((C k) 157 [.d (.int .i64 a0_1),.d (.int .i64 1),.d (.int .i64 3)]) fun r5=>zj (resB 1 false 1 r5 0 0) fun b6=>some ([(false,[.d (.bool b6)])])) (some ([(false,[.d (.bool false)])]))) none) (some ([(false,[.d (.bool false)])]))) none) (some ([(false,[.d (.bool false)])])):=(crun k 161 (by kernel_rfl) Tryz.func161 rfl).trans (by kernel_rfl)
noncomputable def F167.L6 (k:Nat) (call:zi) (n:Nat) (v0:Int) (v1:List (List D)) (v2:Ovi.Rows):Option Res:=zt P hs call 167 k Tryz.f167 [1,1,1,1,0,1,0] [] n [(5,AV.own 100005 0),(6,AV.own 100006 0),(7,.d (.int .i64 v0))] [(100005,Blk.arr 27 1 0 v1 (0,0,0)),(100006,Blk.arr 27 1 0 v2 (0,0,0))]
noncomputable def F167.L10 (k:Nat) (call:zi) (k6 n:Nat) (v0:Int) (v1:Bool) (v2:Int) (v3:List (List D)) (v4:Ovi.Rows):Option Res:=zt P hs call 167 k Tryz.f167 [1,1,1,1,0,1,0,0,1,0,0,1,0,1,0] [k6] n [(5,AV.own 100005 0),(6,AV.own 100006 0),(7,.d (.int .i64 v0)),(8,.d (.bool v1)),(9,.d (.int .i64 v2))] [(100005,Blk.arr 27 1 0 v3 (0,0,0)),(100006,Blk.arr 27 1 0 v4 (0,0,0))]
theorem F167.L6.succ (k:Nat) (call:zi) (n:Nat) (v0:Int) (v1:List (List D)) (v2:Ovi.Rows):F167.L6 k call (n+1) v0 v1 v2=ite' (decide (v0 < ((List.length v2):Int))) (F167.L10 k call n k v0 false 0 v1 v2) (some ([(false,[.row 27 1 v1])])):=by kernel_rfl
theorem F167.L10.succ (k:Nat) (call:zi) (k6 n:Nat) (v0:Int) (v1:Bool) (v2:Int) (v3:List (List D)) (v4:Ovi.Rows):F167.L10 k call k6 (n+1) v0 v1 v2 v3 v4=ite' (decide (v2 < (↑v3.length:Int))) (ite' v1 (F167.L10 k call k6 n v0 true (IntKind.i64.wrap (v2+1)) v3 v4) (ite' (inR v2 v3.length) (zc (zw 1 v3 v2.toNat 0) fun l12=>ite' (inR v0 (List.length v4)) (zc (zw 1 v4 v0.toNat 0) fun l13=>zb (call 103 [.d (.list 1 l12),.d (.list 1 l13)]) fun r14=>zg (resI .i64 1 false 1 r14 0 0) fun n15=>F167.L10 k call k6 n v0 (n15==0) (IntKind.i64.wrap (v2+1)) v3 v4) none) none)) (ite' (!v1) (ite' (inR v0 (List.length v4)) (zc (zw 1 v4 v0.toNat 0) fun l12=>ite' (fits (v3.length+[[D.list 1 l12]].length)) (F167.L6 k call k6 (IntKind.i64.wrap (v0+1)) (v3++[[D.list 1 l12]]) v4) none) none) (F167.L6 k call k6 (IntKind.i64.wrap (v0+1)) v3 v4)):=by kernel_rfl
theorem F167.run (k:Nat) (a0_0 a0_1 a1:Ovi.Rows):C (k+1) 167 [.agg [.d (.list 3 a0_0),.d (.list 2 a0_1)],.d (.list 2 a1)]=zb ((C k) 202 [.agg [.d (.list 3 a0_0),.d (.list 2 a0_1)],.d (.list 2 a1)]) fun r5=>zj (resB 1 false 1 r5 0 0) fun b6=>ite' (!b6) (some ([(false,[.nil])])) (zb ((C k) 204 []) fun r7=>zc (resO 3 1 1 false 1 r7 0 0) fun l8=>zb ((C k) 203 [.agg [.d (.list 3 a0_0),.d (.list 2 a0_1)],.d (.list 2 a1),.d (.int .i64 0),.d (.list 1 l8)]) fun r9=>zc (resO 27 1 1 false 1 r9 0 0) fun l10=>F167.L6 k (C k) k 0 [] l10):=(crun k 167 (by kernel_rfl) Tryz.func167 rfl).trans (by kernel_rfl)
noncomputable def F168.L5 (k:Nat) (call:zi) (n:Nat) (v0 v1:Ovi.Rows) (v2:Int) (v3 v4 v5 v6:Ovi.Rows) (v7:Bool) (v8 v9:Int):Option Res:=zt P hs call 168 k Tryz.f168 [1,1,1,0,1,0] [] n [(2,.d (.list 1 v0)),(3,.var 192 0),(4,.var 256 0),(7,.d (.list 1 v1)),(8,.d (.int .i64 v2))] [(192,Blk.var [.d (.list 3 v3),.d (.list 2 v4)]),(256,Blk.var [.d (.list 2 v5),.d (.list 2 v6),.d (.bool v7),.d (.int .i64 v8),.d (.int .i64 v9)])]
noncomputable def F168.L10 (k:Nat) (call:zi) (n:Nat) (v0:Ovi.Rows) (v1:Int) (v2 v3 v4 v5:Ovi.Rows) (v6:Bool) (v7 v8:Int):Option Res:=zt P hs call 168 k Tryz.f168 [1,1,1,1,0,1,0] [] n [(2,.d (.list 1 v0)),(3,.var 192 0),(4,.var 256 0),(9,.d (.int .i64 v1))] [(192,Blk.var [.d (.list 3 v2),.d (.list 2 v3)]),(256,Blk.var [.d (.list 2 v4),.d (.list 2 v5),.d (.bool v6),.d (.int .i64 v7),.d (.int .i64 v8)])]
theorem F168.L5.succ (k:Nat) (call:zi) (n:Nat) (v0 v1:Ovi.Rows) (v2:Int) (v3 v4 v5 v6:Ovi.Rows) (v7:Bool) (v8 v9:Int):F168.L5 k call (n+1) v0 v1 v2 v3 v4 v5 v6 v7 v8 v9=ite' (decide (v2 < ((List.length v0):Int))) (zb (call 156 [.d (.list 1 v1),.d (.int .i64 v2)]) fun r21=>zj (resB 1 false 1 r21 0 0) fun b22=>ite' (inR v2 (List.length v0)) (zg (zm .i64 v0 v2.toNat 0) fun n23=>zb (call 205 []) fun r24=>zg (resI .i64 1 false 1 r24 0 0) fun n25=>ite' (b22==(n23==n25)) (some ([(false,[.d (.bool false)])])) (F168.L5 k call n v0 v1 (IntKind.i64.wrap (v2+1)) v3 v4 v5 v6 v7 v8 v9)) none) (F168.L10 k call k v0 0 v3 v4 v5 v6 v7 v8 v9):=by kernel_rfl
theorem F168.L10.succ (k:Nat) (call:zi) (n:Nat) (v0:Ovi.Rows) (v1:Int) (v2 v3 v4 v5:Ovi.Rows) (v6:Bool) (v7 v8:Int):F168.L10 k call (n+1) v0 v1 v2 v3 v4 v5 v6 v7 v8=ite' (decide (v1 < ((List.length v4):Int))) (ite' (inR v1 (List.length v4)) (zg (zm .i64 v4 v1.toNat 0) fun n20=>zc (zw 1 v4 v1.toNat 1) fun l21=>zb (call 124 [.agg [.d (.int .i64 n20),.d (.list 1 l21)],.d (.list 1 v0)]) fun r22=>zg (resI .i64 2 true 2 r22 0 0) fun n23=>zc (resO 3 1 2 true 2 r22 0 1) fun l24=>zj (resB 2 false 1 r22 1 0) fun b25=>ite' (!b25) (some ([(false,[.d (.bool false)])])) (zb (call 173 [.agg [.d (.list 3 v2),.d (.list 2 v3)],.agg [.d (.int .i64 n23),.d (.list 1 l24)]]) fun r26=>zg (resI .i64 1 false 1 r26 0 0) fun n27=>ite' (decide (n27 < 0)) (some ([(false,[.d (.bool false)])])) (F168.L10 k call n v0 (IntKind.i64.wrap (v1+1)) v2 v3 v4 v5 v6 v7 v8))) none) (some ([(false,[.d (.bool true)])])):=by kernel_rfl
theorem F168.run (k:Nat) (a0_0 a0_1 a1_0 a1_1:Ovi.Rows) (a1_2:Bool) (a1_3 a1_4:Int) (a2:Ovi.Rows):C (k+1) 168 [.agg [.d (.list 3 a0_0),.d (.list 2 a0_1)],.agg [.d (.list 2 a1_0),.d (.list 2 a1_1),.d (.bool a1_2),.d (.int .i64 a1_3),.d (.int .i64 a1_4)],.d (.list 1 a2)]=zb ((C k) 58 [.agg [.d (.list 3 a0_0),.d (.list 2 a0_1)]]) fun r10=>zj (resB 1 false 1 r10 0 0) fun b11=>ite' (!b11) (some ([(false,[.d (.bool false)])])) (zb ((C k) 108 [.d (.list 3 a0_0),.agg [.d (.list 2 a1_0),.d (.list 2 a1_1),.d (.bool a1_2),.d (.int .i64 a1_3),.d (.int .i64 a1_4)]]) fun r12=>zj (resB 1 false 1 r12 0 0) fun b13=>ite' (!b13) (some ([(false,[.d (.bool false)])])) (ite' (((List.length a2):Int) != 5) (some ([(false,[.d (.bool false)])])) (zb ((C k) 154 [.d (.list 2 a1_0)]) fun r14=>zc (resL 1 1 false 1 r14 0 0) fun l15=>F168.L5 k (C k) k a2 l15 0 a0_0 a0_1 a1_0 a1_1 a1_2 a1_3 a1_4))):=(crun k 168 (by kernel_rfl) Tryz.func168 rfl).trans (by kernel_rfl)
theorem F169.run (k:Nat) (a0_0 a0_1 a1 a2:Ovi.Rows):C (k+1) 169 [.agg [.d (.list 3 a0_0),.d (.list 2 a0_1)],.d (.list 2 a1),.d (.list 1 a2)]=zb ((C k) 202 [.agg [.d (.list 3 a0_0),.d (.list 2 a0_1)],.d (.list 2 a1)]) fun r6=>zj (resB 1 false 1 r6 0 0) fun b7=>ite' b7 (ite' (((List.length a2):Int)==5) (zb ((C k) 203 [.agg [.d (.list 3 a0_0),.d (.list 2 a0_1)],.d (.list 2 a1),.d (.int .i64 0),.d (.list 1 a2)]) fun r8=>zc (resO 27 1 1 false 1 r8 0 0) fun l9=>some ([(false,[.d (.bool (decide (((List.length l9):Int) > 0)))])])) (some ([(false,[.d (.bool false)])]))) (some ([(false,[.d (.bool false)])])):=(crun k 169 (by kernel_rfl) Tryz.func169 rfl).trans (by kernel_rfl)
noncomputable def F170.L4 (k:Nat) (call:zi) (n:Nat) (v0:Int) (v1 v2:Ovi.Rows):Option Res:=zt P hs call 170 k Tryz.f170 [1,1,0,1,0] [] n [(1,.var 64 0),(3,.d (.int .i64 v0))] [(64,Blk.var [.d (.list 1 v1),.d (.list 1 v2)])]
theorem F170.L4.succ (k:Nat) (call:zi) (n:Nat) (v0:Int) (v1 v2:Ovi.Rows):F170.L4 k call (n+1) v0 v1 v2=ite' (decide (v0 < ((List.length v1):Int))) (ite' (inR v0 (List.length v1)) (zg (zm .i64 v1 v0.toNat 0) fun n8=>zb (call 157 [.d (.int .i64 n8),.d (.int .i64 0),.d (.int .i64 39)]) fun r9=>zj (resB 1 false 1 r9 0 0) fun b10=>ite' (!b10) (some ([(false,[.d (.bool false)])])) (ite' (decide (v0 > 0)) (ite' (inR v0 (List.length v1)) (zg (zm .i64 v1 v0.toNat 0) fun n11=>ite' (inR (IntKind.i64.wrap (v0 - 1)) (List.length v1)) (zg (zm .i64 v1 (IntKind.i64.wrap (v0 - 1)).toNat 0) fun n12=>ite' (decide (n11≤n12)) (some ([(false,[.d (.bool false)])])) (ite' (inR v0 (List.length v2)) (zg (zm .i64 v2 v0.toNat 0) fun n13=>zb (call 159 [.d (.int .i64 n13)]) fun r14=>zj (resB 1 false 1 r14 0 0) fun b15=>ite' (!b15) (some ([(false,[.d (.bool false)])])) (F170.L4 k call n (IntKind.i64.wrap (v0+1)) v1 v2)) none)) none) none) (ite' (inR v0 (List.length v2)) (zg (zm .i64 v2 v0.toNat 0) fun n11=>zb (call 159 [.d (.int .i64 n11)]) fun r12=>zj (resB 1 false 1 r12 0 0) fun b13=>ite' (!b13) (some ([(false,[.d (.bool false)])])) (F170.L4 k call n (IntKind.i64.wrap (v0+1)) v1 v2)) none))) none) (some ([(false,[.d (.bool true)])])):=by kernel_rfl
theorem F170.run (k:Nat) (a0_0 a0_1:Ovi.Rows):C (k+1) 170 [.agg [.d (.list 1 a0_0),.d (.list 1 a0_1)]]=ite' (((List.length a0_0):Int) != ((List.length a0_1):Int)) (some ([(false,[.d (.bool false)])])) (F170.L4 k (C k) k 0 a0_0 a0_1):=(crun k 170 (by kernel_rfl) Tryz.func170 rfl).trans (by kernel_rfl)
noncomputable def F171.L3 (k:Nat) (call:zi) (n:Nat) (v0:Int) (v1 v2:Ovi.Rows) (v3:Int) (v4:Ovi.Rows) (v5:Int) (v6:List (List D)) (v7:Int) (v8:List (List D)):Option Res:=zt P hs call 171 k Tryz.f171 [1,1,0,1,0] [] n [(2,.var 128 0),(3,.var 192 0),(4,.var 256 0),(5,.var 320 0),(6,.d (.int .i64 v0))] [(128,Blk.var [.d (.list 1 v1),.d (.list 1 v2)]),(192,Blk.var [.d (.int .i64 v3),.d (.list 1 v4)]),(256,Blk.var [.d (.int .i64 v5),AV.own 200065 0]),(200065,Blk.arr 3 1 0 v6 (0,0,0)),(320,Blk.var [.d (.int .i64 v7),AV.own 200081 0]),(200081,Blk.arr 3 1 0 v8 (0,0,0))]
theorem F171.L3.succ (k:Nat) (call:zi) (n:Nat) (v0:Int) (v1 v2:Ovi.Rows) (v3:Int) (v4:Ovi.Rows) (v5:Int) (v6:List (List D)) (v7:Int) (v8:List (List D)):F171.L3 k call (n+1) v0 v1 v2 v3 v4 v5 v6 v7 v8=ite' (decide (v0 < ((List.length v4):Int))) (ite' (inR v0 (List.length v4)) (zg (zm .i64 v4 v0.toNat 0) fun n16=>zb (call 206 [.agg [.d (.list 1 v1),.d (.list 1 v2)],.d (.int .i64 n16)]) fun r17=>zg (resI .i64 1 false 1 r17 0 0) fun n18=>ite' (fits (v8.length+[[D.int .i64 n18]].length)) (F171.L3 k call n (IntKind.i64.wrap (v0+1)) v1 v2 v3 v4 v5 v6 v7 (v8++[[D.int .i64 n18]])) none) none) (some ([(true,[.d (.int .i64 v7),.row 3 1 v8])])):=by kernel_rfl
theorem F171.run (k:Nat) (a0_0 a0_1:Ovi.Rows) (a1_0:Int) (a1_1:Ovi.Rows):C (k+1) 171 [.agg [.d (.list 1 a0_0),.d (.list 1 a0_1)],.agg [.d (.int .i64 a1_0),.d (.list 1 a1_1)]]=F171.L3 k (C k) k 0 a0_0 a0_1 a1_0 a1_1 0 [] a1_0 []:=(crun k 171 (by kernel_rfl) Tryz.func171 rfl).trans (by kernel_rfl)
noncomputable def F172.L3 (k:Nat) (call:zi) (n:Nat) (v0:List (List D)) (v1:Int) (v2 v3:Ovi.Rows):Option Res:=zt P hs call 172 k Tryz.f172 [1,1,0,1,0] [] n [(1,.var 64 0),(3,.d (.list 1 v0)),(4,.d (.int .i64 v1))] [(64,Blk.var [.d (.list 3 v2),.d (.list 2 v3)])]
noncomputable def F172.L7 (k:Nat) (call:zi) (k3 n:Nat) (v0:List (List D)) (v1:Int) (v2:Ovi.Rows) (v3:Int) (v4 v5:Ovi.Rows):Option Res:=zt P hs call 172 k Tryz.f172 [1,1,0,1,0,0,1,0,0,1,1,0] [k3] n [(1,.var 64 0),(3,.d (.list 1 v0)),(4,.d (.int .i64 v1)),(5,.d (.list 1 v2)),(6,.d (.int .i64 v3))] [(64,Blk.var [.d (.list 3 v4),.d (.list 2 v5)])]
theorem F172.L3.succ (k:Nat) (call:zi) (n:Nat) (v0:List (List D)) (v1:Int) (v2 v3:Ovi.Rows):F172.L3 k call (n+1) v0 v1 v2 v3=ite' (decide (v1 < ((List.length v3):Int))) (ite' (inR v1 (List.length v3)) (zg (zm .i64 v3 v1.toNat 0) fun n9=>zc (zw 1 v3 v1.toNat 1) fun l10=>zb (call 106 [.agg [.d (.int .i64 n9),.d (.list 1 l10)]]) fun r11=>zc (resL 1 1 false 1 r11 0 0) fun l12=>F172.L7 k call n k v0 v1 l12 0 v2 v3) none) (some ([(false,[.d (.list 1 v0)])])):=by kernel_rfl
theorem F172.L7.succ (k:Nat) (call:zi) (k3 n:Nat) (v0:List (List D)) (v1:Int) (v2:Ovi.Rows) (v3:Int) (v4 v5:Ovi.Rows):F172.L7 k call k3 (n+1) v0 v1 v2 v3 v4 v5=ite' (decide (v3 < ((List.length v2):Int))) (ite' (inR v3 (List.length v2)) (zg (zm .i64 v2 v3.toNat 0) fun n12=>zb (call 160 [.d (.list 1 v0),.d (.int .i64 n12)]) fun r13=>zc (resL 1 1 false 1 r13 0 0) fun l14=>F172.L7 k call k3 n l14 v1 v2 (IntKind.i64.wrap (v3+1)) v4 v5) none) (F172.L3 k call k3 v0 (IntKind.i64.wrap (v1+1)) v4 v5):=by kernel_rfl
theorem F172.run (k:Nat) (a0_0 a0_1:Ovi.Rows):C (k+1) 172 [.agg [.d (.list 3 a0_0),.d (.list 2 a0_1)]]=F172.L3 k (C k) k [] 0 a0_0 a0_1:=(crun k 172 (by kernel_rfl) Tryz.func172 rfl).trans (by kernel_rfl)
noncomputable def F173.L2 (k:Nat) (call:zi) (n:Nat) (v0:Int) (v1 v2:Ovi.Rows) (v3:Int) (v4:Ovi.Rows):Option Res:=zt P hs call 173 k Tryz.f173 [1,0,1,0] [] n [(2,.var 128 0),(3,.var 192 0),(5,.d (.int .i64 v0))] [(128,Blk.var [.d (.list 3 v1),.d (.list 2 v2)]),(192,Blk.var [.d (.int .i64 v3),.d (.list 1 v4)])]
theorem F173.L2.succ (k:Nat) (call:zi) (n:Nat) (v0:Int) (v1 v2:Ovi.Rows) (v3:Int) (v4:Ovi.Rows):F173.L2 k call (n+1) v0 v1 v2 v3 v4=ite' (decide (v0 < ((List.length v2):Int))) (ite' (inR v0 (List.length v2)) (zg (zm .i64 v2 v0.toNat 0) fun n12=>zc (zw 1 v2 v0.toNat 1) fun l13=>zb (call 105 [.agg [.d (.int .i64 n12),.d (.list 1 l13)],.agg [.d (.int .i64 v3),.d (.list 1 v4)]]) fun r14=>zg (resI .i64 1 false 1 r14 0 0) fun n15=>ite' (n15==0) (some ([(false,[.d (.int .i64 v0)])])) (F173.L2 k call n (IntKind.i64.wrap (v0+1)) v1 v2 v3 v4)) none) (some ([(false,[.d (.int .i64 (-1))])])):=by kernel_rfl
theorem F173.run (k:Nat) (a0_0 a0_1:Ovi.Rows) (a1_0:Int) (a1_1:Ovi.Rows):C (k+1) 173 [.agg [.d (.list 3 a0_0),.d (.list 2 a0_1)],.agg [.d (.int .i64 a1_0),.d (.list 1 a1_1)]]=F173.L2 k (C k) k 0 a0_0 a0_1 a1_0 a1_1:=(crun k 173 (by kernel_rfl) Tryz.func173 rfl).trans (by kernel_rfl)
noncomputable def F174.L2 (k:Nat) (call:zi) (n:Nat) (v0:Ovi.Rows) (v1:FuncId) (v2:Ovi.Rows) (v3 v4:Int):Option Res:=zt P hs call 174 k Tryz.f174 [1,0,1,0] [] n [(0,.d (.list 1 v0)),(1,.d (.fn v1 v2)),(7,.d (.int .i64 v3)),(8,.d (.int .i64 v4))] []
theorem F174.L2.succ (k:Nat) (call:zi) (n:Nat) (v0:Ovi.Rows) (v1:FuncId) (v2:Ovi.Rows) (v3 v4:Int):F174.L2 k call (n+1) v0 v1 v2 v3 v4=ite' (decide (v4 < v3)) (ite' (inR v4 (List.length v0)) (zg (zm .i64 v0 v4.toNat 0) fun n11=>zb (call v1 (.d (.int .i64 n11)::[].append (List.map (fun (c:List D)=>AV.cap c 0) v2))) fun r12=>zj (resB 1 false 1 r12 0 0) fun b13=>ite' b13 (some ([(false,[.d (.int .i64 v4)])])) (F174.L2 k call n v0 v1 v2 v3 (IntKind.i64.wrap (v4+1)))) none) (some ([(false,[.d (.int .i64 (-1))])])):=by kernel_rfl
theorem F174.run (k:Nat) (a0:Ovi.Rows) (a1:FuncId) (a1c:Ovi.Rows):C (k+1) 174 [.d (.list 1 a0),.d (.fn a1 a1c)]=F174.L2 k (C k) k a0 a1 a1c (((List.length a0):Int)) 0:=(crun k 174 (by kernel_rfl) Tryz.func174 rfl).trans (by kernel_rfl)
theorem F175.run (k:Nat) (a0:Int):C (k+1) 175 [.d (.int .i64 a0)]=some ([(false,[.d (.bool (a0 != a0))])]):=(crun k 175 (by kernel_rfl) Tryz.func175 rfl).trans (by kernel_rfl)
theorem F178.run (k:Nat) (a0_0:Int) (a0_1 c0_0:Ovi.Rows):C (k+1) 178 [.agg [.d (.int .i64 a0_0),.d (.list 1 a0_1)],AV.cap [D.list 3 c0_0] 0]=zb ((C k) 179 [.d (.list 3 c0_0),.agg [.d (.int .i64 a0_0),.d (.list 1 a0_1)]]) fun r5=>zj (resB 1 false 1 r5 0 0) fun b6=>some ([(false,[.d (.bool !b6)])]):=(crun k 178 (by kernel_rfl) Tryz.func178 rfl).trans (by kernel_rfl)
theorem F179.run (k:Nat) (a0:Ovi.Rows) (a1_0:Int) (a1_1:Ovi.Rows):C (k+1) 179 [.d (.list 3 a0),.agg [.d (.int .i64 a1_0),.d (.list 1 a1_1)]]=zb ((C k) 75 [.d (.list 3 a0)]) fun r5=>zj (resB 1 false 1 r5 0 0) fun b6=>ite' (!b6) (some ([(false,[.d (.bool false)])])) (zb ((C k) 128 [.d (.int .i64 a1_0),.d (.int .i64 0),.d (.int .i64 (IntKind.i64.wrap (((List.length a0):Int) - 1)))]) fun r7=>zj (resB 1 false 1 r7 0 0) fun b8=>ite' (!b8) (some ([(false,[.d (.bool false)])])) (ite' (inR a1_0 (List.length a0)) (zg (zm .i64 a0 a1_0.toNat 1) fun n9=>ite' (((List.length a1_1):Int) != n9) (some ([(false,[.d (.bool false)])])) (zb ((C k) 129 [.d (.list 1 a1_1),.d (.fn 208 [])]) fun r10=>zj (resB 1 false 1 r10 0 0) fun b11=>some ([(false,[.d (.bool !b11)])]))) none)):=(crun k 179 (by kernel_rfl) Tryz.func179 rfl).trans (by kernel_rfl)
noncomputable def F180.L2 (k:Nat) (call:zi) (n:Nat) (v0:Ovi.Rows) (v1 v2 v3:Int):Option Res:=zt P hs call 180 k Tryz.f180 [1,0,1,0] [] n [(0,.d (.list 1 v0)),(1,.d (.int .i64 v1)),(7,.d (.int .i64 v2)),(8,.d (.int .i64 v3))] []
theorem F180.L2.succ (k:Nat) (call:zi) (n:Nat) (v0:Ovi.Rows) (v1 v2 v3:Int):F180.L2 k call (n+1) v0 v1 v2 v3=ite' (decide (v3 < v2)) (ite' (inR v3 (List.length v0)) (zg (zm .i64 v0 v3.toNat 0) fun n9=>ite' (v1==n9) (some ([(false,[.d (.int .i64 v3)])])) (F180.L2 k call n v0 v1 v2 (IntKind.i64.wrap (v3+1)))) none) (some ([(false,[.d (.int .i64 (-1))])])):=by kernel_rfl
theorem F180.run (k:Nat) (a0:Ovi.Rows) (a1:Int):C (k+1) 180 [.d (.list 1 a0),.d (.int .i64 a1)]=F180.L2 k (C k) k a0 a1 (((List.length a0):Int)) 0:=(crun k 180 (by kernel_rfl) Tryz.func180 rfl).trans (by kernel_rfl)
noncomputable def F181.L2 (k:Nat) (call:zi) (n:Nat) (v0:Ovi.Rows) (v1:FuncId) (v2:Ovi.Rows) (v3 v4:Int):Option Res:=zt P hs call 181 k Tryz.f181 [1,0,1,0] [] n [(0,.d (.list 2 v0)),(1,.d (.fn v1 v2)),(7,.d (.int .i64 v3)),(8,.d (.int .i64 v4))] []
theorem F181.L2.succ (k:Nat) (call:zi) (n:Nat) (v0:Ovi.Rows) (v1:FuncId) (v2:Ovi.Rows) (v3 v4:Int):F181.L2 k call (n+1) v0 v1 v2 v3 v4=ite' (decide (v4 < v3)) (ite' (inR v4 (List.length v0)) (zg (zm .i64 v0 v4.toNat 0) fun n11=>zc (zw 1 v0 v4.toNat 1) fun l12=>zb (call v1 (.agg [.d (.int .i64 n11),.d (.list 1 l12)]::[].append (List.map (fun (c:List D)=>AV.cap c 0) v2))) fun r13=>zj (resB 1 false 1 r13 0 0) fun b14=>ite' b14 (some ([(false,[.d (.int .i64 v4)])])) (F181.L2 k call n v0 v1 v2 v3 (IntKind.i64.wrap (v4+1)))) none) (some ([(false,[.d (.int .i64 (-1))])])):=by kernel_rfl
theorem F181.run (k:Nat) (a0:Ovi.Rows) (a1:FuncId) (a1c:Ovi.Rows):C (k+1) 181 [.d (.list 2 a0),.d (.fn a1 a1c)]=F181.L2 k (C k) k a0 a1 a1c (((List.length a0):Int)) 0:=(crun k 181 (by kernel_rfl) Tryz.func181 rfl).trans (by kernel_rfl)
theorem F182.run (k:Nat) (a0_0 a0_1 a1:Ovi.Rows):C (k+1) 182 [.agg [.d (.list 3 a0_0),.d (.list 2 a0_1)],.d (.list 2 a1)]=zb ((C k) 40 [.agg [.d (.list 3 a0_0),.d (.list 2 a0_1)]]) fun r5=>zj (resB 1 false 1 r5 0 0) fun b6=>ite' b6 (ite' (((List.length a1):Int)==0) (some ([(false,[.d (.bool true)])])) (zb ((C k) 136 [.d (.list 3 a0_0),.d (.list 2 a1),.d (.int .i64 3)]) fun r7=>zj (resB 1 false 1 r7 0 0) fun b8=>some ([(false,[.d (.bool b8)])]))) (some ([(false,[.d (.bool false)])])):=(crun k 182 (by kernel_rfl) Tryz.func182 rfl).trans (by kernel_rfl)
theorem F184.run (k:Nat):C (k+1) 184 []=zb ((C k) 210 [.d (.list 1 [[D.int .i64 10]]),.d (.int .i64 5)]) fun r2=>zc (resO 3 1 1 false 1 r2 0 0) fun l3=>some ([(false,[.row 3 1 l3])]):=(crun k 184 (by kernel_rfl) Tryz.func184 rfl).trans (by kernel_rfl)
theorem F185.run (k:Nat) (a0 a1:Ovi.Rows):C (k+1) 185 [.d (.list 1 a0),.d (.list 1 a1)]=zb ((C k) 211 [.d (.list 1 a0),.d (.fn 212 [[D.list 1 a1]])]) fun r4=>zj (resB 1 false 1 r4 0 0) fun b5=>some ([(false,[.d (.bool b5)])]):=(crun k 185 (by kernel_rfl) Tryz.func185 rfl).trans (by kernel_rfl)
theorem F186.run (k:Nat) (a0:Ovi.Rows) (a1_0:Int) (a1_1:Ovi.Rows):C (k+1) 186 [.d (.list 2 a0),.agg [.d (.int .i64 a1_0),.d (.list 1 a1_1)]]=zb ((C k) 213 [.d (.list 2 a0),.d (.fn 214 [[D.int .i64 a1_0,D.list 1 a1_1]])]) fun r5=>zj (resB 1 false 1 r5 0 0) fun b6=>some ([(false,[.d (.bool b6)])]):=(crun k 186 (by kernel_rfl) Tryz.func186 rfl).trans (by kernel_rfl)
noncomputable def F187.L4 (k:Nat) (call:zi) (n:Nat) (v0:Ovi.Rows) (v1 v2:Int) (v3 v4:Ovi.Rows):Option Res:=zt P hs call 187 k Tryz.f187 [1,1,0,1,0] [] n [(1,.var 64 0),(13,.d (.list 1 v0)),(14,.d (.int .i64 v1)),(15,.d (.int .i64 v2))] [(64,Blk.var [.d (.list 1 v3),.d (.list 1 v4)])]
theorem F187.L4.succ (k:Nat) (call:zi) (n:Nat) (v0:Ovi.Rows) (v1 v2:Int) (v3 v4:Ovi.Rows):F187.L4 k call (n+1) v0 v1 v2 v3 v4=ite' (decide (v2 < v1)) (ite' (inR v2 (List.length v0)) (zg (zm .i64 v0 v2.toNat 0) fun n10=>zb (call 128 [.d (.int .i64 n10),.d (.int .i64 0),.d (.int .i64 39)]) fun r11=>zj (resB 1 false 1 r11 0 0) fun b12=>ite' (!b12) (some ([(false,[.d (.bool false)])])) (ite' (decide (v2 > 0)) (ite' (inR (IntKind.i64.wrap (v2 - 1)) (List.length v3)) (zg (zm .i64 v3 (IntKind.i64.wrap (v2 - 1)).toNat 0) fun n13=>ite' (decide (n10≤n13)) (some ([(false,[.d (.bool false)])])) (ite' (inR v2 (List.length v4)) (zg (zm .i64 v4 v2.toNat 0) fun n14=>zb (call 131 [.d (.int .i64 n14)]) fun r15=>zj (resB 1 false 1 r15 0 0) fun b16=>ite' (!b16) (some ([(false,[.d (.bool false)])])) (F187.L4 k call n v0 v1 (IntKind.i64.wrap (v2+1)) v3 v4)) none)) none) (ite' (inR v2 (List.length v4)) (zg (zm .i64 v4 v2.toNat 0) fun n13=>zb (call 131 [.d (.int .i64 n13)]) fun r14=>zj (resB 1 false 1 r14 0 0) fun b15=>ite' (!b15) (some ([(false,[.d (.bool false)])])) (F187.L4 k call n v0 v1 (IntKind.i64.wrap (v2+1)) v3 v4)) none))) none) (some ([(false,[.d (.bool true)])])):=by kernel_rfl
theorem F187.run (k:Nat) (a0_0 a0_1:Ovi.Rows):C (k+1) 187 [.agg [.d (.list 1 a0_0),.d (.list 1 a0_1)]]=ite' (((List.length a0_0):Int) != ((List.length a0_1):Int)) (some ([(false,[.d (.bool false)])])) (F187.L4 k (C k) k a0_0 (((List.length a0_0):Int)) 0 a0_0 a0_1):=(crun k 187 (by kernel_rfl) Tryz.func187 rfl).trans (by kernel_rfl)
noncomputable def F188.L3 (k:Nat) (call:zi) (n:Nat) (v0:Ovi.Rows) (v1 v2:Int) (v3 v4:Ovi.Rows) (v5:Int) (v6:List (List D)) (v7:Int) (v8:Ovi.Rows):Option Res:=zt P hs call 188 k Tryz.f188 [1,1,0,1,0] [] n [(2,.var 128 0),(4,.var 256 0),(5,.var 320 0),(11,.d (.list 1 v0)),(12,.d (.int .i64 v1)),(13,.d (.int .i64 v2))] [(128,Blk.var [.d (.list 1 v3),.d (.list 1 v4)]),(256,Blk.var [.d (.int .i64 v5),AV.own 200065 0]),(200065,Blk.arr 3 1 0 v6 (0,0,0)),(320,Blk.var [.d (.int .i64 v7),AV.own 200081 0]),(200081,Blk.arr 3 1 0 v8 (0,0,0))]
theorem F188.L3.succ (k:Nat) (call:zi) (n:Nat) (v0:Ovi.Rows) (v1 v2:Int) (v3 v4:Ovi.Rows) (v5:Int) (v6:List (List D)) (v7:Int) (v8:Ovi.Rows):F188.L3 k call (n+1) v0 v1 v2 v3 v4 v5 v6 v7 v8=ite' (decide (v2 < v1)) (ite' (inR v2 (List.length v0)) (zg (zm .i64 v0 v2.toNat 0) fun n16=>zb (call 215 [.agg [.d (.list 1 v3),.d (.list 1 v4)],.d (.int .i64 n16)]) fun r17=>zg (resI .i64 1 false 1 r17 0 0) fun n18=>ite' (inR v2 (List.length v8)) (F188.L3 k call n v0 v1 (IntKind.i64.wrap (v2+1)) v3 v4 v5 v6 v7 (zai v8 v2.toNat 0 [D.int .i64 n18])) none) none) (some ([(true,[.d (.int .i64 v7),.row 3 1 v8])])):=by kernel_rfl
theorem F188.run (k:Nat) (a0_0 a0_1:Ovi.Rows) (a1_0:Int) (a1_1:Ovi.Rows):C (k+1) 188 [.agg [.d (.list 1 a0_0),.d (.list 1 a0_1)],.agg [.d (.int .i64 a1_0),.d (.list 1 a1_1)]]=zb ((C k) 141 [.agg [.d (.int .i64 a1_0),.d (.list 1 a1_1)]]) fun r6=>zg (resI .i64 1 true 2 r6 0 0) fun n7=>zc (resO 3 1 1 true 2 r6 0 1) fun l8=>F188.L3 k (C k) k a1_1 (((List.length a1_1):Int)) 0 a0_0 a0_1 0 [] n7 l8:=(crun k 188 (by kernel_rfl) Tryz.func188 rfl).trans (by kernel_rfl)
noncomputable def F202.L2 (k:Nat) (call:zi) (n:Nat) (v0:Ovi.Rows) (v1:Int) (v2 v3:Ovi.Rows):Option Res:=zt P hs call 202 k Tryz.f202 [1,0,1,0] [] n [(1,.d (.list 2 v0)),(2,.var 128 0),(5,.d (.int .i64 v1))] [(128,Blk.var [.d (.list 3 v2),.d (.list 2 v3)])]
theorem F202.L2.succ (k:Nat) (call:zi) (n:Nat) (v0:Ovi.Rows) (v1:Int) (v2 v3:Ovi.Rows):F202.L2 k call (n+1) v0 v1 v2 v3=ite' (decide (v1 < ((List.length v0):Int))) (ite' (inR v1 (List.length v0)) (zg (zm .i64 v0 v1.toNat 0) fun n10=>zc (zw 1 v0 v1.toNat 1) fun l11=>zb (call 155 [.d (.list 3 v2),.agg [.d (.int .i64 n10),.d (.list 1 l11)]]) fun r12=>zj (resB 1 false 1 r12 0 0) fun b13=>ite' (!b13) (some ([(false,[.d (.bool false)])])) (F202.L2 k call n v0 (IntKind.i64.wrap (v1+1)) v2 v3)) none) (zb (call 58 [.agg [.d (.list 3 v2),.d (.list 2 v3)]]) fun r10=>zj (resB 1 false 1 r10 0 0) fun b11=>ite' b11 (some ([(false,[.d (.bool (decide (((List.length v0):Int)≤3)))])])) (some ([(false,[.d (.bool false)])]))):=by kernel_rfl
theorem F202.run (k:Nat) (a0_0 a0_1 a1:Ovi.Rows):C (k+1) 202 [.agg [.d (.list 3 a0_0),.d (.list 2 a0_1)],.d (.list 2 a1)]=F202.L2 k (C k) k a1 0 a0_0 a0_1:=(crun k 202 (by kernel_rfl) Tryz.func202 rfl).trans (by kernel_rfl)
noncomputable def F203.L5 (k:Nat) (call:zi) (n:Nat) (v0:Ovi.Rows) (v1:Int) (v2:Ovi.Rows) (v3:Int) (v4 v5:Ovi.Rows) (v6:List (List D)):Option Res:=zt P hs call 203 k Tryz.f203 [1,1,1,0,1,0] [] n [(1,.d (.list 2 v0)),(2,.d (.int .i64 v1)),(3,.d (.list 1 v2)),(4,.var 256 0),(9,AV.own 100009 0),(10,.d (.int .i64 v3))] [(256,Blk.var [.d (.list 3 v4),.d (.list 2 v5)]),(100009,Blk.arr 27 1 0 v6 (0,0,0))]
theorem F203.L5.succ (k:Nat) (call:zi) (n:Nat) (v0:Ovi.Rows) (v1:Int) (v2:Ovi.Rows) (v3:Int) (v4 v5:Ovi.Rows) (v6:List (List D)):F203.L5 k call (n+1) v0 v1 v2 v3 v4 v5 v6=ite' (decide (v3 < ((List.length v5):Int))) (ite' (inR v1 (List.length v0)) (zg (zm .i64 v0 v1.toNat 0) fun n15=>zc (zw 1 v0 v1.toNat 1) fun l16=>ite' (inR v3 (List.length v5)) (zg (zm .i64 v5 v3.toNat 0) fun n17=>zc (zw 1 v5 v3.toNat 1) fun l18=>zb (call 229 [.agg [.d (.int .i64 n15),.d (.list 1 l16)],.agg [.d (.int .i64 n17),.d (.list 1 l18)],.d (.list 1 v2)]) fun r19=>zc (resO 3 1 2 false 1 r19 0 0) fun l20=>zj (resB 2 false 1 r19 1 0) fun b21=>ite' b21 (zb (call 203 [.agg [.d (.list 3 v4),.d (.list 2 v5)],.d (.list 2 v0),.d (.int .i64 (IntKind.i64.wrap (v1+1))),.d (.list 1 l20)]) fun r22=>zc (resO 27 1 1 false 1 r22 0 0) fun l23=>ite' (fits (v6.length+List.length l23)) (F203.L5 k call n v0 v1 v2 (IntKind.i64.wrap (v3+1)) v4 v5 (v6++l23)) none) (F203.L5 k call n v0 v1 v2 (IntKind.i64.wrap (v3+1)) v4 v5 v6)) none) none) (some ([(false,[.row 27 1 v6])])):=by kernel_rfl
theorem F203.run (k:Nat) (a0_0 a0_1 a1:Ovi.Rows) (a2:Int) (a3:Ovi.Rows):C (k+1) 203 [.agg [.d (.list 3 a0_0),.d (.list 2 a0_1)],.d (.list 2 a1),.d (.int .i64 a2),.d (.list 1 a3)]=ite' (a2==((List.length a1):Int)) (ite' (fits (List.length a3)) (some ([(false,[.row 27 1 [[D.list 1 a3]]])])) none) (F203.L5 k (C k) k a1 a2 a3 0 a0_0 a0_1 []):=(crun k 203 (by kernel_rfl) Tryz.func203 rfl).trans (by kernel_rfl)
noncomputable def F204.L2 (k:Nat) (call:zi) (n:Nat) (v0:List (List D)):Option Res:=zt P hs call 204 k Tryz.f204 [1,1,0,0] [] n [(1,AV.own 100001 0)] [(100001,Blk.arr 3 1 0 v0 (0,0,0))]
theorem F204.L2.succ (k:Nat) (call:zi) (n:Nat) (v0:List (List D)):F204.L2 k call (n+1) v0=ite' (decide ((↑v0.length:Int) < 5)) (zb (call 205 []) fun r4=>zg (resI .i64 1 false 1 r4 0 0) fun n5=>ite' (fits (v0.length+[[D.int .i64 n5]].length)) (F204.L2 k call n (v0++[[D.int .i64 n5]])) none) (some ([(false,[.row 3 1 v0])])):=by kernel_rfl
theorem F204.run (k:Nat):C (k+1) 204 []=F204.L2 k (C k) k []:=(crun k 204 (by kernel_rfl) Tryz.func204 rfl).trans (by kernel_rfl)
theorem F205.run (k:Nat):C (k+1) 205 []=some ([(false,[.d (.int .i64 10)])]):=(crun k 205 (by kernel_rfl) Tryz.func205 rfl).trans (by kernel_rfl)
noncomputable def F206.L2 (k:Nat) (call:zi) (n:Nat) (v0 v1:Int) (v2 v3:Ovi.Rows):Option Res:=zt P hs call 206 k Tryz.f206 [1,0,1,0] [] n [(1,.d (.int .i64 v0)),(2,.var 128 0),(5,.d (.int .i64 v1))] [(128,Blk.var [.d (.list 1 v2),.d (.list 1 v3)])]
theorem F206.L2.succ (k:Nat) (call:zi) (n:Nat) (v0 v1:Int) (v2 v3:Ovi.Rows):F206.L2 k call (n+1) v0 v1 v2 v3=ite' (decide (v1 < ((List.length v2):Int))) (zb (call 170 [.agg [.d (.list 1 v2),.d (.list 1 v3)]]) fun r10=>zj (resB 1 false 1 r10 0 0) fun b11=>ite' b11 (ite' (inR v1 (List.length v2)) (zg (zm .i64 v2 v1.toNat 0) fun n12=>zb (call 123 [.d (.int .i64 n12)]) fun r13=>zg (resI .i64 1 false 1 r13 0 0) fun n14=>ite' (n14==v0) (ite' (inR v1 (List.length v3)) (zg (zm .i64 v3 v1.toNat 0) fun n15=>some ([(false,[.d (.int .i64 n15)])])) none) (F206.L2 k call n v0 (IntKind.i64.wrap (v1+1)) v2 v3)) none) (some ([(false,[.d (.int .i64 v0)])]))) (some ([(false,[.d (.int .i64 v0)])])):=by kernel_rfl
theorem F206.run (k:Nat) (a0_0 a0_1:Ovi.Rows) (a1:Int):C (k+1) 206 [.agg [.d (.list 1 a0_0),.d (.list 1 a0_1)],.d (.int .i64 a1)]=F206.L2 k (C k) k a1 0 a0_0 a0_1:=(crun k 206 (by kernel_rfl) Tryz.func206 rfl).trans (by kernel_rfl)
theorem F208.run (k:Nat) (a0:Int):C (k+1) 208 [.d (.int .i64 a0)]=zb ((C k) 128 [.d (.int .i64 a0),.d (.int .i64 (-10)),.d (.int .i64 4)]) fun r3=>zj (resB 1 false 1 r3 0 0) fun b4=>some ([(false,[.d (.bool !b4)])]):=(crun k 208 (by kernel_rfl) Tryz.func208 rfl).trans (by kernel_rfl)
noncomputable def F209.L5 (k:Nat) (call:zi) (n:Nat) (v0:Ovi.Rows) (v1 v2 v3:Int) (v4 v5:Ovi.Rows):Option Res:=zt P hs call 209 k Tryz.f209 [1,1,1,0,1,0] [] n [(5,.var 320 0),(8,AV.own 100008 0),(20,.d (.list 1 v0)),(21,.d (.int .i64 v1)),(22,.d (.int .i64 v2))] [(320,Blk.var [.d (.int .i64 v3),.d (.list 1 v4)]),(100008,Blk.arr 3 1 0 v5 (0,0,0))]
theorem F209.L5.succ (k:Nat) (call:zi) (n:Nat) (v0:Ovi.Rows) (v1 v2 v3:Int) (v4 v5:Ovi.Rows):F209.L5 k call (n+1) v0 v1 v2 v3 v4 v5=ite' (decide (v2 < v1)) (ite' (inR v2 (List.length v0)) (zg (zm .i64 v0 v2.toNat 0) fun n14=>ite' (inR v2 (List.length v4)) (zg (zm .i64 v4 v2.toNat 0) fun n15=>ite' (decide (n14 < 0)) (ite' (n15 != IntKind.i64.wrap ((-1) - n14)) (some ([(false,[.nil]),(false,[.d (.bool false)])])) (F209.L5 k call n v0 v1 (IntKind.i64.wrap (v2+1)) v3 v4 v5)) (ite' (inR n14 (List.length v5)) (zg (zm .i64 v5 n14.toNat 0) fun n16=>ite' (n16==10) (ite' (inR n14 (List.length v5)) (F209.L5 k call n v0 v1 (IntKind.i64.wrap (v2+1)) v3 v4 (zai v5 n14.toNat 0 [D.int .i64 n15])) none) (ite' (inR n14 (List.length v5)) (zg (zm .i64 v5 n14.toNat 0) fun n17=>ite' (n17 != n15) (some ([(false,[.nil]),(false,[.d (.bool false)])])) (F209.L5 k call n v0 v1 (IntKind.i64.wrap (v2+1)) v3 v4 v5)) none)) none)) none) none) (some ([(false,[.row 3 1 v5]),(false,[.d (.bool true)])])):=by kernel_rfl
theorem F209.run (k:Nat) (a0:Ovi.Rows) (a1_0:Int) (a1_1:Ovi.Rows) (a2_0:Int) (a2_1:Ovi.Rows):C (k+1) 209 [.d (.list 1 a0),.agg [.d (.int .i64 a1_0),.d (.list 1 a1_1)],.agg [.d (.int .i64 a2_0),.d (.list 1 a2_1)]]=ite' (a1_0 != a2_0) (some ([(false,[.nil]),(false,[.d (.bool false)])])) (zb ((C k) 87 [.d (.list 1 a0)]) fun r7=>zc (resO 3 1 1 false 1 r7 0 0) fun l8=>F209.L5 k (C k) k a1_1 (((List.length a1_1):Int)) 0 a2_0 a2_1 l8):=(crun k 209 (by kernel_rfl) Tryz.func209 rfl).trans (by kernel_rfl)
theorem F211.run (k:Nat) (a0:Ovi.Rows) (a1:FuncId) (a1c:Ovi.Rows):C (k+1) 211 [.d (.list 1 a0),.d (.fn a1 a1c)]=zb ((C k) 240 [.d (.list 1 a0),.d (.fn a1 a1c)]) fun r5=>zg (resI .i64 1 false 1 r5 0 0) fun n6=>some ([(false,[.d (.bool (decide (n6 ≥ 0)))])]):=(crun k 211 (by kernel_rfl) Tryz.func211 rfl).trans (by kernel_rfl)
theorem F212.run (k:Nat) (a0 c0_0:Ovi.Rows):C (k+1) 212 [.d (.list 1 a0),AV.cap [D.list 1 c0_0] 0]=zb ((C k) 114 [.d (.list 1 a0),.d (.list 1 c0_0)]) fun r4=>zj (resB 1 false 1 r4 0 0) fun b5=>some ([(false,[.d (.bool b5)])]):=(crun k 212 (by kernel_rfl) Tryz.func212 rfl).trans (by kernel_rfl)
theorem F213.run (k:Nat) (a0:Ovi.Rows) (a1:FuncId) (a1c:Ovi.Rows):C (k+1) 213 [.d (.list 2 a0),.d (.fn a1 a1c)]=zb ((C k) 241 [.d (.list 2 a0),.d (.fn a1 a1c)]) fun r5=>zg (resI .i64 1 false 1 r5 0 0) fun n6=>some ([(false,[.d (.bool (decide (n6 ≥ 0)))])]):=(crun k 213 (by kernel_rfl) Tryz.func213 rfl).trans (by kernel_rfl)
theorem F214.run (k:Nat) (a0_0:Int) (a0_1:Ovi.Rows) (c0_0:Int) (c0_1:Ovi.Rows):C (k+1) 214 [.agg [.d (.int .i64 a0_0),.d (.list 1 a0_1)],AV.cap [D.int .i64 c0_0,D.list 1 c0_1] 0]=zb ((C k) 152 [.agg [.d (.int .i64 a0_0),.d (.list 1 a0_1)],.agg [.d (.int .i64 c0_0),.d (.list 1 c0_1)]]) fun r6=>zj (resB 1 false 1 r6 0 0) fun b7=>some ([(false,[.d (.bool b7)])]):=(crun k 214 (by kernel_rfl) Tryz.func214 rfl).trans (by kernel_rfl)
theorem F215.run (k:Nat) (a0_0 a0_1:Ovi.Rows) (a1:Int):C (k+1) 215 [.agg [.d (.list 1 a0_0),.d (.list 1 a0_1)],.d (.int .i64 a1)]=zb ((C k) 146 [.d (.int .i64 a1)]) fun r5=>zg (resI .i64 2 false 1 r5 0 0) fun n6=>zj (resB 2 false 1 r5 1 0) fun b7=>zb ((C k) 180 [.d (.list 1 a0_0),.d (.int .i64 n6)]) fun r8=>zg (resI .i64 1 false 1 r8 0 0) fun n9=>ite' (!b7) (some ([(false,[.d (.int .i64 a1)])])) (ite' (decide (n9 < 0)) (some ([(false,[.d (.int .i64 a1)])])) (zb ((C k) 187 [.agg [.d (.list 1 a0_0),.d (.list 1 a0_1)]]) fun r10=>zj (resB 1 false 1 r10 0 0) fun b11=>ite' (!b11) (some ([(false,[.d (.int .i64 a1)])])) (ite' (inR n9 (List.length a0_1)) (zg (zm .i64 a0_1 n9.toNat 0) fun n12=>some ([(false,[.d (.int .i64 n12)])])) none))):=(crun k 215 (by kernel_rfl) Tryz.func215 rfl).trans (by kernel_rfl)
noncomputable def F229.L5 (k:Nat) (call:zi) (n:Nat) (v0 v1:Int) (v2:Ovi.Rows) (v3:Int) (v4 v5:Ovi.Rows):Option Res:=zt P hs call 229 k Tryz.f229 [1,1,1,0,1,0] [] n [(3,.var 192 0),(4,.var 256 0),(8,AV.own 100008 0),(9,.d (.int .i64 v0))] [(192,Blk.var [.d (.int .i64 v1),.d (.list 1 v2)]),(256,Blk.var [.d (.int .i64 v3),.d (.list 1 v4)]),(100008,Blk.arr 3 1 0 v5 (0,0,0))]
theorem F229.L5.succ (k:Nat) (call:zi) (n:Nat) (v0 v1:Int) (v2:Ovi.Rows) (v3:Int) (v4 v5:Ovi.Rows):F229.L5 k call (n+1) v0 v1 v2 v3 v4 v5=ite' (decide (v0 < ((List.length v2):Int))) (ite' (inR v0 (List.length v2)) (zg (zm .i64 v2 v0.toNat 0) fun n14=>ite' (decide (n14 < 0)) (ite' (inR v0 (List.length v4)) (zg (zm .i64 v4 v0.toNat 0) fun n15=>ite' (IntKind.i64.wrap ((-1) - n14) != n15) (some ([(false,[.row 3 1 v5]),(false,[.d (.bool false)])])) (F229.L5 k call n (IntKind.i64.wrap (v0+1)) v1 v2 v3 v4 v5)) none) (ite' (inR n14 (List.length v5)) (zg (zm .i64 v5 n14.toNat 0) fun n15=>zb (call 205 []) fun r16=>zg (resI .i64 1 false 1 r16 0 0) fun n17=>ite' (n15 != n17) (ite' (inR n14 (List.length v5)) (zg (zm .i64 v5 n14.toNat 0) fun n18=>ite' (inR v0 (List.length v4)) (zg (zm .i64 v4 v0.toNat 0) fun n19=>ite' (n18 != n19) (some ([(false,[.row 3 1 v5]),(false,[.d (.bool false)])])) (ite' (inR v0 (List.length v4)) (zg (zm .i64 v4 v0.toNat 0) fun n20=>ite' (inR n14 (List.length v5)) (F229.L5 k call n (IntKind.i64.wrap (v0+1)) v1 v2 v3 v4 (zai v5 n14.toNat 0 [D.int .i64 n20])) none) none)) none) none) (ite' (inR v0 (List.length v4)) (zg (zm .i64 v4 v0.toNat 0) fun n18=>ite' (inR n14 (List.length v5)) (F229.L5 k call n (IntKind.i64.wrap (v0+1)) v1 v2 v3 v4 (zai v5 n14.toNat 0 [D.int .i64 n18])) none) none)) none)) none) (some ([(false,[.row 3 1 v5]),(false,[.d (.bool true)])])):=by kernel_rfl
theorem F229.run (k:Nat) (a0_0:Int) (a0_1:Ovi.Rows) (a1_0:Int) (a1_1 a2:Ovi.Rows):C (k+1) 229 [.agg [.d (.int .i64 a0_0),.d (.list 1 a0_1)],.agg [.d (.int .i64 a1_0),.d (.list 1 a1_1)],.d (.list 1 a2)]=ite' (fits (List.length a2)) (ite' (a0_0 != a1_0) (some ([(false,[.row 3 1 a2]),(false,[.d (.bool false)])])) (ite' (((List.length a0_1):Int) != ((List.length a1_1):Int)) (some ([(false,[.row 3 1 a2]),(false,[.d (.bool false)])])) (F229.L5 k (C k) k 0 a0_0 a0_1 a1_0 a1_1 a2))) none:=(crun k 229 (by kernel_rfl) Tryz.func229 rfl).trans (by kernel_rfl)
noncomputable def F240.L2 (k:Nat) (call:zi) (n:Nat) (v0:Ovi.Rows) (v1:FuncId) (v2:Ovi.Rows) (v3 v4:Int):Option Res:=zt P hs call 240 k Tryz.f240 [1,0,1,0] [] n [(0,.d (.list 1 v0)),(1,.d (.fn v1 v2)),(7,.d (.int .i64 v3)),(8,.d (.int .i64 v4))] []
theorem F240.L2.succ (k:Nat) (call:zi) (n:Nat) (v0:Ovi.Rows) (v1:FuncId) (v2:Ovi.Rows) (v3 v4:Int):F240.L2 k call (n+1) v0 v1 v2 v3 v4=ite' (decide (v4 < v3)) (ite' (inR v4 (List.length v0)) (zc (zw 1 v0 v4.toNat 0) fun l11=>zb (call v1 (.d (.list 1 l11)::[].append (List.map (fun (c:List D)=>AV.cap c 0) v2))) fun r12=>zj (resB 1 false 1 r12 0 0) fun b13=>ite' b13 (some ([(false,[.d (.int .i64 v4)])])) (F240.L2 k call n v0 v1 v2 v3 (IntKind.i64.wrap (v4+1)))) none) (some ([(false,[.d (.int .i64 (-1))])])):=by kernel_rfl
theorem F240.run (k:Nat) (a0:Ovi.Rows) (a1:FuncId) (a1c:Ovi.Rows):C (k+1) 240 [.d (.list 1 a0),.d (.fn a1 a1c)]=F240.L2 k (C k) k a0 a1 a1c (((List.length a0):Int)) 0:=(crun k 240 (by kernel_rfl) Tryz.func240 rfl).trans (by kernel_rfl)
noncomputable def F241.L2 (k:Nat) (call:zi) (n:Nat) (v0:Ovi.Rows) (v1:FuncId) (v2:Ovi.Rows) (v3 v4:Int):Option Res:=zt P hs call 241 k Tryz.f241 [1,0,1,0] [] n [(0,.d (.list 2 v0)),(1,.d (.fn v1 v2)),(7,.d (.int .i64 v3)),(8,.d (.int .i64 v4))] []
theorem F241.L2.succ (k:Nat) (call:zi) (n:Nat) (v0:Ovi.Rows) (v1:FuncId) (v2:Ovi.Rows) (v3 v4:Int):F241.L2 k call (n+1) v0 v1 v2 v3 v4=ite' (decide (v4 < v3)) (ite' (inR v4 (List.length v0)) (zg (zm .i64 v0 v4.toNat 0) fun n11=>zc (zw 1 v0 v4.toNat 1) fun l12=>zb (call v1 (.agg [.d (.int .i64 n11),.d (.list 1 l12)]::[].append (List.map (fun (c:List D)=>AV.cap c 0) v2))) fun r13=>zj (resB 1 false 1 r13 0 0) fun b14=>ite' b14 (some ([(false,[.d (.int .i64 v4)])])) (F241.L2 k call n v0 v1 v2 v3 (IntKind.i64.wrap (v4+1)))) none) (some ([(false,[.d (.int .i64 (-1))])])):=by kernel_rfl
theorem F241.run (k:Nat) (a0:Ovi.Rows) (a1:FuncId) (a1c:Ovi.Rows):C (k+1) 241 [.d (.list 2 a0),.d (.fn a1 a1c)]=F241.L2 k (C k) k a0 a1 a1c (((List.length a0):Int)) 0:=(crun k 241 (by kernel_rfl) Tryz.func241 rfl).trans (by kernel_rfl)
noncomputable def F9036.L5 (k:Nat) (call:zi) (n:Nat) (v0:Ovi.Rows) (v1:List (List D)) (v2 v3:Int) (v4 v5 v6:List (List D)) (v7 v8:Ovi.Rows) (v9:Int) (v10:List (List D)):Option Res:=zt P hs call 36 k Tryz.f36 [1,1,1,0,1,0] [] n [(1,.d (.list 5 v0)),(2,.d (.list 0 v1)),(6,.var 384 0),(8,.var 512 0),(9,.d (.int .i64 v2))] [(384,Blk.var [AV.own 200096 0,AV.own 200097 0,.d (.int .i64 v3),AV.own 200099 0]),(200096,Blk.arr 112 3 0 v4 (0,0,0)),(200097,Blk.arr 114 2 0 v5 (1,0,0)),(200099,Blk.arr 83 2 0 v6 (0,0,0)),(512,Blk.var [.d (.list 3 v7),.d (.list 2 v8),.d (.int .i64 v9),AV.own 200131 0]),(200131,Blk.arr 83 2 0 v10 (0,0,0))]
theorem F9036.L5.succ (k:Nat) (call:zi) (n:Nat) (v0:Ovi.Rows) (v1:List (List D)) (v2 v3:Int) (v4 v5 v6:List (List D)) (v7 v8:Ovi.Rows) (v9:Int) (v10:List (List D)):F9036.L5 k call (n+1) v0 v1 v2 v3 v4 v5 v6 v7 v8 v9 v10=ite' (decide (v2 < 60)) (zb (call 69 [.agg [.d (.list 3 v7),.d (.list 2 v8)],.d (.list 5 v0)]) fun r17=>zc (resO 83 2 1 false 1 r17 0 0) fun l18=>ite' (((List.length l18):Int)==0) (some ([(true,[.d (.list 3 v7),.d (.list 2 v8),.d (.int .i64 1),.row 83 2 v10]),(false,[.d (.bool true)])])) (ite' (decide ((↑v1.length:Int) > 0)) (ite' ((↑v1.length:Int)==0) none none) (ite' (inR 0 (List.length l18)) (zg (zm .i64 l18 0 0) fun n19=>ite' (inR n19 (List.length v0)) (zc (zw 2 v0 n19.toNat 0) fun l20=>zc (zw 2 v0 n19.toNat 1) fun l21=>zj (zan v0 n19.toNat 2) fun b22=>zg (zm .i64 v0 n19.toNat 3) fun n23=>zg (zm .i64 v0 n19.toNat 4) fun n24=>ite' (inR 0 (List.length l18)) (zc (zw 1 l18 0 1) fun l25=>zb (call 71 [.agg [.d (.list 3 v7),.d (.list 2 v8)],.agg [.d (.list 2 l20),.d (.list 2 l21),.d (.bool b22),.d (.int .i64 n23),.d (.int .i64 n24)],.d (.list 1 l25)]) fun r26=>zc (resL 3 2 true 2 r26 0 0) fun l27=>zc (resL 2 2 true 2 r26 0 1) fun l28=>zg (resI .i64 2 false 1 r26 1 0) fun n29=>ite' (inR 0 (List.length l18)) (zg (zm .i64 l18 0 0) fun n30=>zc (zw 1 l18 0 1) fun l31=>ite' (fits (v10.length+[[D.int .i64 n30,D.list 1 l31]].length)) (ite' (n29 != 1) (some ([(true,[.d (.list 3 l27),.d (.list 2 l28),.d (.int .i64 n29),.row 83 2 (v10++[[D.int .i64 n30,D.list 1 l31]])]),(false,[.d (.bool true)])])) (F9036.L5 k call n v0 v1 (IntKind.i64.wrap (v2+1)) v3 v4 v5 v6 l27 l28 v9 (v10++[[D.int .i64 n30,D.list 1 l31]]))) none) none) none) none) none))) (some ([(true,[.d (.list 3 v7),.d (.list 2 v8),.d (.int .i64 3),.row 83 2 v10]),(false,[.d (.bool true)])])):=by kernel_rfl
theorem F9036.run (k:Nat) (a0_0 a0_1 a1:Ovi.Rows):C (k+1) 36 [.agg [.d (.list 3 a0_0),.d (.list 2 a0_1)],.d (.list 5 a1),.d (.list 0 [])]=zb ((C k) 58 [.agg [.d (.list 3 a0_0),.d (.list 2 a0_1)]]) fun r5=>zj (resB 1 false 1 r5 0 0) fun b6=>ite' (!b6) (some ([(true,[.nil,.nil,.d (.int .i64 0),.nil]),(false,[.d (.bool false)])])) (zb ((C k) 59 [.d (.list 3 a0_0),.d (.list 5 a1)]) fun r7=>zj (resB 1 false 1 r7 0 0) fun b8=>ite' (!b8) (some ([(true,[.nil,.nil,.d (.int .i64 0),.nil]),(false,[.d (.bool false)])])) (zb ((C k) 68 [.agg [.d (.list 3 a0_0),.d (.list 2 a0_1)]]) fun r9=>zc (resO 112 3 1 true 2 r9 0 0) fun l10=>zc (resF 114 2 1 1 true 2 r9 0 1) fun l11=>F9036.L5 k (C k) k a1 [] 0 0 [] [] [] l10 l11 0 [])):=(crun k 36 (by kernel_rfl) Tryz.func36 rfl).trans (by kernel_rfl)
noncomputable def F9012.L5 (k:Nat) (call:zi) (n:Nat) (v0:Ovi.Rows) (v1:List (List D)) (v2 v3:Int) (v4 v5 v6:List (List D)) (v7:Int) (v8 v9:Ovi.Rows) (v10:List (List D)):Option Res:=zt P hs call 12 k Tryz.f12 [1,1,1,0,1,0] [] n [(1,.d (.list 5 v0)),(2,.d (.list 0 v1)),(6,.var 384 0),(8,.var 512 0),(9,.d (.int .i64 v2))] [(384,Blk.var [AV.own 200096 0,AV.own 200097 0,.d (.int .i64 v3),AV.own 200099 0]),(200096,Blk.arr 112 3 0 v4 (0,0,0)),(200097,Blk.arr 114 2 0 v5 (1,0,0)),(200099,Blk.arr 83 2 0 v6 (1,0,0)),(512,Blk.var [AV.own 200128 0,AV.own 200129 0,.d (.int .i64 v7),AV.own 200131 0]),(200128,Blk.arr 112 3 0 v8 (0,0,0)),(200129,Blk.arr 114 2 0 v9 (1,0,0)),(200131,Blk.arr 83 2 0 v10 (1,0,0))]
theorem F9012.L5.succ (k:Nat) (call:zi) (n:Nat) (v0:Ovi.Rows) (v1:List (List D)) (v2 v3:Int) (v4 v5 v6:List (List D)) (v7:Int) (v8 v9:Ovi.Rows) (v10:List (List D)):F9012.L5 k call (n+1) v0 v1 v2 v3 v4 v5 v6 v7 v8 v9 v10=ite' (v7==1) (ite' (v2==60) (some ([(true,[.frow 112 3 0 v8,.frow 114 2 1 v9,.d (.int .i64 3),.frow 83 2 1 v10]),(false,[.d (.bool true)])])) (zb (call 43 [.agg [.d (.list 3 v8),.d (.list 2 v9)],.d (.list 5 v0)]) fun r17=>zc (resF 83 2 1 1 false 1 r17 0 0) fun l18=>ite' (depR 1 l18) (ite' (((List.length l18):Int)==0) (some ([(true,[.frow 112 3 0 v8,.frow 114 2 1 v9,.d (.int .i64 v7),.frow 83 2 1 v10]),(false,[.d (.bool true)])])) (ite' (decide ((↑v1.length:Int) > 0)) (ite' ((↑v1.length:Int)==0) none none) (ite' (inR 0 (List.length l18)) (zg (zm .i64 l18 0 0) fun n19=>zc (zw 1 l18 0 1) fun l20=>ite' (inR n19 (List.length v0)) (zc (zw 2 v0 n19.toNat 0) fun l21=>zc (zw 2 v0 n19.toNat 1) fun l22=>zj (zan v0 n19.toNat 2) fun b23=>zg (zm .i64 v0 n19.toNat 3) fun n24=>zg (zm .i64 v0 n19.toNat 4) fun n25=>zb (call 44 [.agg [.d (.list 3 v8),.d (.list 2 v9)],.agg [.d (.list 2 l21),.d (.list 2 l22),.d (.bool b23),.d (.int .i64 n24),.d (.int .i64 n25)],.d (.list 1 l20)]) fun r26=>zc (resO 112 3 2 true 2 r26 0 0) fun l27=>zc (resF 114 2 1 2 true 2 r26 0 1) fun l28=>zg (resI .i64 2 false 1 r26 1 0) fun n29=>ite' (fits (v10.length+[[D.int .i64 n19,D.list 1 l20]].length)) (F9012.L5 k call n v0 v1 (IntKind.i64.wrap (v2+1)) v3 v4 v5 v6 n29 l27 l28 (v10++[[D.int .i64 n19,D.list 1 l20]])) none) none) none))) none)) (some ([(true,[.frow 112 3 0 v8,.frow 114 2 1 v9,.d (.int .i64 v7),.frow 83 2 1 v10]),(false,[.d (.bool true)])])):=by kernel_rfl
theorem F9012.run (k:Nat) (a0_0 a0_1 a1:Ovi.Rows):C (k+1) 12 [.agg [.d (.list 3 a0_0),.d (.list 2 a0_1)],.d (.list 5 a1),.d (.list 0 [])]=zb ((C k) 40 [.agg [.d (.list 3 a0_0),.d (.list 2 a0_1)]]) fun r5=>zj (resB 1 false 1 r5 0 0) fun b6=>ite' (!b6) (some ([(true,[.nil,.nil,.d (.int .i64 0),.nil]),(false,[.d (.bool false)])])) (zb ((C k) 41 [.d (.list 3 a0_0),.d (.list 5 a1)]) fun r7=>zj (resB 1 false 1 r7 0 0) fun b8=>ite' (!b8) (some ([(true,[.nil,.nil,.d (.int .i64 0),.nil]),(false,[.d (.bool false)])])) (zb ((C k) 42 [.agg [.d (.list 3 a0_0),.d (.list 2 a0_1)]]) fun r9=>zc (resO 112 3 1 true 2 r9 0 0) fun l10=>zc (resF 114 2 1 1 true 2 r9 0 1) fun l11=>F9012.L5 k (C k) k a1 [] 0 0 [] [] [] 1 l10 l11 [])):=(crun k 12 (by kernel_rfl) Tryz.func12 rfl).trans (by kernel_rfl)
end Go.Proofs.YtiacahdabflcdaaGreat.Q
namespace Ovi
open Go
theorem zJ (e sz d:Nat) (l:Rows):resF e sz d 1 false 1 [(false,[.frow e sz d l])] 0 0=some l:=by simp [resF,zaf]
end Ovi
namespace Go.Proofs.YtiacahdabflcdaaGreat.Q
open Go Ovi
theorem zfc {k:Nat} {f:FuncId} {p:Args→Option Res} {args:Args} (h:prim f=some p):C (k+1) f args=p args:=by
 show zbo P hs prim (k+1) f args=p args
 unfold zbo
 rw [h]
theorem l11 {k:Nat} (hk:2000000≤k) {a:Ovi.Rows} (ha:Fit (.list [.int .i64]) (.list 1 a)) (hs:szR a≤1048576):∀ (m i n:Nat) (v:Ovi.Rows),Filled a v i 1→i+m=a.length→m < n→F11.L3 k (C k) n a (i:Int) v=some [(false,[.row 3 1 a])]:=by
 have hlen:=ha.len
 intro m;induction m with
 | zero =>
  intro i n v hv hm hn
  obtain ⟨n,rfl⟩:∃ j,n=j+1:=⟨n - 1,by omega⟩
  obtain rfl:i=a.length:=by omega
  rw [F11.L3.succ,ite'_f (lt_f (by omega)),hv.done]
 | succ m ih =>
  intro i n v hv hm hn
  obtain ⟨n,rfl⟩:∃ j,n=j+1:=⟨n - 1,by omega⟩
  obtain ⟨row,hr,hfr,hdr⟩:=ha.row (i:=i) (by omega)
  obtain ⟨d0,rr0,rfl,hd0,hfr0⟩:=Fits.cons hfr
  obtain ⟨x0,rfl,wx0⟩:=hd0.int
  obtain rfl:=Fits.nil hfr0
  have hst:=hv.step hr rfl
  have hvl:=hv.1
  have hszr:=zbK hr
  rw [F11.L3.succ,ite'_t (lt_t (by omega)),ite'_t (zo (by omega))]
  simp only [Int.toNat_natCast,zF hr,zau hr,zaw hr,zab hr]
  simp only [List.getElem?_cons_zero,List.getElem?_cons_succ,Option.bind_some,zz,zV,zX,zN,zd,zu,zG,zh,zl,zx,zK,zS,zy,zJ,bne_self_eq_false,beq_self_eq_true,Bool.not_true]
  rw [ite'_t (zo (by omega)),zaj (m:=a.length) (by omega) (by omega) hlen]
  rw [show ((i:Int)+1)=((i+1:Nat):Int) by omega]
  exact ih (i+1) n _ hst (by omega) (by omega)
theorem c11 {k:Nat} (hk:2000001≤k) {a:Ovi.Rows} (ha:Fit (.list [.int .i64]) (.list 1 a)) (hs:szD (.list 1 a)≤1048576):C k 11 [.d (.list 1 a)]=some [(false,[.row 3 1 a])]:=by
 obtain ⟨k,rfl⟩:∃ j,k=j+1:=⟨k - 1,by omega⟩
 simp only [szD] at hs
 rw [F11.run,ite'_t (zhn _),ite'_t (zhE (by omega))]
 exact l11 (k:=k) (by omega) ha (by omega) a.length 0 k _ (Filled.start a _) (by omega) (by omega)
theorem l16 {k:Nat} (hk:2000000≤k) {a:Ovi.Rows} (ha:Fit (.list [.int .i64]) (.list 1 a)) (hs:szR a≤1048576):∀ (m i n:Nat),i+m=a.length→m < n→F16.L4 k (C k) n a a (i:Int)=some [(false,[.d (.bool true)])]:=by
 have hlen:=ha.len
 intro m;induction m with
 | zero =>
  intro i n hm hn
  obtain ⟨n,rfl⟩:∃ j,n=j+1:=⟨n - 1,by omega⟩
  rw [F16.L4.succ,ite'_f (lt_f (by omega))]
 | succ m ih =>
  intro i n hm hn
  obtain ⟨n,rfl⟩:∃ j,n=j+1:=⟨n - 1,by omega⟩
  obtain ⟨row,hr,hfr,hdr⟩:=ha.row (i:=i) (by omega)
  obtain ⟨d0,rr0,rfl,hd0,hfr0⟩:=Fits.cons hfr
  obtain ⟨x0,rfl,wx0⟩:=hd0.int
  obtain rfl:=Fits.nil hfr0
  have hszr:=zbK hr
  rw [F16.L4.succ,ite'_t (lt_t (by omega)),ite'_t (zo (by omega))]
  simp only [Int.toNat_natCast,zF hr,zau hr,zaw hr,zab hr]
  simp only [List.getElem?_cons_zero,List.getElem?_cons_succ,Option.bind_some,zz,zV,zX,zN,zd,zu,zG,zh,zl,zx,zK,zS,zy,zJ,bne_self_eq_false,beq_self_eq_true,Bool.not_true]
  rw [ite'_t (zo (by omega))]
  rw [ite'_f rfl,zaj (m:=a.length) (by omega) (by omega) hlen]
  rw [show ((i:Int)+1)=((i+1:Nat):Int) by omega]
  exact ih (i+1) n (by omega) (by omega)
theorem c16 {k:Nat} (hk:2000001≤k) {a:Ovi.Rows} (ha:Fit (.list [.int .i64]) (.list 1 a)) (hs:szD (.list 1 a)≤1048576):C k 16 [.d (.list 1 a),.d (.list 1 a)]=some [(false,[.d (.bool true)])]:=by
 obtain ⟨k,rfl⟩:∃ j,k=j+1:=⟨k - 1,by omega⟩
 simp only [szD] at hs
 rw [F16.run,ite'_f (zf6 _)]
 exact l16 (k:=k) (by omega) ha (by omega) a.length 0 k (by omega) (by omega)
theorem c65 {k:Nat} (hk:2000001≤k) {a0:List UInt8} (ha0:a0.length≤maxLen) {a1:Int} {a2:Bool} {left:Int} (h0:0≤left) (h1:left≤1048576):C k 65 [.agg [.d (.str a0),.d (.int .i64 a1),.d (.bool a2)],.d (.int .i64 left)]=some [(false,[.d (.int .i64 (szT left (szC [.str a0,.int .i64 a1,.bool a2])))])]:=by
 obtain ⟨k,rfl⟩:∃ j,k=j+1:=⟨k - 1,by omega⟩
 have eT:szC [.str a0,.int .i64 a1,.bool a2]=((a0.length:Nat)):=by simp only [szC,szD]<;>omega
 rw [eT,F65.run]
 unfold maxLen at ha0
 rw [zac (n:=left - (a0.length:Int)) (by omega) (by omega)]
 rcases z7 (left) ((a0.length:Nat)) with ⟨q0,e0⟩ | ⟨q0,e0⟩
 rotate_left
 ·rw [ite'_t (by simp only [decide_eq_true_eq];omega)]<;>first | rfl | rw [zaq (by omega)]
 rw [ite'_f (zaC (by omega))]<;>first | rfl | (rw [zaK (by omega)]<;>(congr 6<;>omega))
theorem zo6 {a0:List UInt8} {a1:Int} {a2:Bool}:resS 1 true 3 [(true,[.d (.str a0),.d (.int .i64 a1),.d (.bool a2)])] 0 0=some a0:=rfl
theorem zo7 {a0:List UInt8} {a1:Int} {a2:Bool}:resI .i64 1 true 3 [(true,[.d (.str a0),.d (.int .i64 a1),.d (.bool a2)])] 0 1=some a1:=rfl
theorem zo8 {a0:List UInt8} {a1:Int} {a2:Bool}:resB 1 true 3 [(true,[.d (.str a0),.d (.int .i64 a1),.d (.bool a2)])] 0 2=some a2:=rfl
theorem c72 {k:Nat} (hk:2000001≤k) {a0:List UInt8} (ha0:a0.length≤maxLen) {a1:Int} {a2:Bool}  : C k 72 [.agg [.d (.str a0),.d (.int .i64 a1),.d (.bool a2)]]=some [(true,[.d (.str a0),.d (.int .i64 a1),.d (.bool a2)])]:=by
 obtain ⟨k,rfl⟩:∃ j,k=j+1:=⟨k - 1,by omega⟩
 rw [F72.run]
theorem c94 {k:Nat} (hk:2000001≤k) {a0:List UInt8} (ha0:a0.length≤maxLen) {a1:Int} {a2:Bool}  : C k 94 [.agg [.d (.str a0),.d (.int .i64 a1),.d (.bool a2)],.agg [.d (.str a0),.d (.int .i64 a1),.d (.bool a2)]]=some [(false,[.d (.bool true)])]:=by
 obtain ⟨k,rfl⟩:∃ j,k=j+1:=⟨k - 1,by omega⟩
 rw [F94.run]
 simp only [List.getElem?_cons_zero,List.getElem?_cons_succ,Option.bind_some,zz,zV,zX,zN,zd,zu,zG,zh,zl,zx,zK,zS,zy,zJ,bne_self_eq_false,beq_self_eq_true,Bool.not_true]
 rfl
theorem c100 {k:Nat} (hk:2000001≤k) {a:Ovi.Rows} (ha:Fit (.list [.int .i64]) (.list 1 a)) {left:Int} (h0:0≤left) (h1:left≤1048576):C k 100 [.d (.list 1 a),.d (.int .i64 left)]=some [(false,[.d (.int .i64 (szT left (szD (.list 1 a))))])]:=by
 obtain ⟨k,rfl⟩:∃ j,k=j+1:=⟨k - 1,by omega⟩
 have hlen:=ha.len;unfold maxLen at hlen
 have hz:szR a=0:=by
  clear hlen h0 h1
  induction a with
  | nil=>rfl
  | cons r rs ih =>
   simp only [Fit,List.length_cons,List.mem_cons,forall_eq_or_imp] at ha
   obtain ⟨q1,q2,hfr,q4⟩:=ha
   obtain ⟨d0,rr0,rfl,hd0,hfr0⟩:=Fits.cons hfr
   obtain ⟨x0,rfl,wx0⟩:=hd0.int
   obtain rfl:=Fits.nil hfr0
   simp only [szR,szC,szD]
   rw [ih (by simp only [Fit];exact ⟨q1,by omega,q4⟩)]
 rw [F100.run,zac (by omega) (by omega)]
 simp only [szD,hz,Nat.add_zero]
 rcases z7 left a.length with ⟨q,e⟩ | ⟨q,e⟩<;>rw [e]
 ·rw [ite'_f (zaC (by omega))]
 ·rw [ite'_t (by simp only [decide_eq_true_eq];omega)]
theorem l33 {k:Nat} (hk:2000001≤k) {a:Ovi.Rows} (ha:Fit (.list [.str,.int .i64,.bool]) (.list 3 a)):∀ (m i n:Nat) (left:Int),0≤left→left≤1048576→i+m=a.length→m < n→F33.L5 k (C k) n a left (i:Int)=some [(false,[.d (.int .i64 (szT left (szR (a.drop i))))])]:=by
 have hlen:=ha.len
 intro m;induction m with
 | zero =>
  intro i n left h0 h1 hm hn
  obtain ⟨n,rfl⟩:∃ j,n=j+1:=⟨n - 1,by omega⟩
  rw [F33.L5.succ,ite'_f (lt_f (by omega)),List.drop_eq_nil_of_le (by omega)]
  simp only [szR,zaK (left:=left) (s:=0) (by omega)]
  simp
 | succ m ih =>
  intro i n left h0 h1 hm hn
  obtain ⟨n,rfl⟩:∃ j,n=j+1:=⟨n - 1,by omega⟩
  obtain ⟨row,hr,hfr,hdr⟩:=ha.row (i:=i) (by omega)
  obtain ⟨d0,rr0,rfl,hd0,hfr0⟩:=Fits.cons hfr
  obtain ⟨x0,rfl,hx0⟩:=hd0.str
  obtain ⟨d1,rr1,rfl,hd1,hfr1⟩:=Fits.cons hfr0
  obtain ⟨x1,rfl,wx1⟩:=hd1.int
  obtain ⟨d2,rr2,rfl,hd2,hfr2⟩:=Fits.cons hfr1
  obtain ⟨x2,rfl⟩:=hd2.bool
  obtain rfl:=Fits.nil hfr2
  have eR:szR (a.drop i)=szC [.str x0,.int .i64 x1,.bool x2]+szR (a.drop (i+1)):=by rw [hdr];rfl
  rw [F33.L5.succ,ite'_t (lt_t (by omega)),ite'_t (zo (by omega)),eR]
  simp only [Int.toNat_natCast,zF hr,zau hr,zaw hr,zab hr]
  simp only [List.getElem?_cons_zero,List.getElem?_cons_succ,Option.bind_some,zz,zV,zX,zN,zd,zu,zG,zh,zl,zx,zK,zS,zy,zJ,bne_self_eq_false,beq_self_eq_true,Bool.not_true]
  have cc:=c65 (k:=k) (by omega) (a1:=x1) (a2:=x2) hx0 h0 h1
  rw [cc]
  simp only [List.getElem?_cons_zero,List.getElem?_cons_succ,Option.bind_some,zz,zV,zX,zN,zd,zu,zG,zh,zl,zx,zK,zS,zy,zJ,bne_self_eq_false,beq_self_eq_true,Bool.not_true]
  rcases z7 left (szC [.str x0,.int .i64 x1,.bool x2]) with ⟨q,e⟩ | ⟨q,e⟩<;>rw [e]
  ·rw [ite'_f (zaC (by omega)),zaj (m:=a.length) (by omega) (by omega) hlen]
   have:=ih (i+1) n (left - ((szC [.str x0,.int .i64 x1,.bool x2]:Nat):Int)) (by omega) (by omega) (by omega) (by omega)
   rw [show ((i:Int)+1)=((i+1:Nat):Int) by omega,this]
   rcases z7 (left - ((szC [.str x0,.int .i64 x1,.bool x2]:Nat):Int)) (szR (a.drop (i+1))) with ⟨q2,e2⟩ | ⟨q2,e2⟩<;>rw [e2]
   ·rw [zaK (by omega)]<;>(congr 6<;>omega)
   ·rw [zaq (by omega)]
  ·rw [ite'_t zdW,zaq (by omega)]
theorem c33 {k:Nat} (hk:2000002≤k) {a:Ovi.Rows} (ha:Fit (.list [.str,.int .i64,.bool]) (.list 3 a)) {left:Int} (h0:0≤left) (h1:left≤1048576):C k 33 [.d (.list 3 a),.d (.int .i64 left)]=some [(false,[.d (.int .i64 (szT left (szD (.list 3 a))))])]:=by
 obtain ⟨k,rfl⟩:∃ j,k=j+1:=⟨k - 1,by omega⟩
 have hlen:=ha.len;unfold maxLen at hlen
 rw [F33.run,zac (by omega) (by omega)]
 have eD:szD (.list 3 a)=a.length+szR a:=by simp only [szD]
 rw [eD]
 rcases z7 left a.length with ⟨q,e⟩ | ⟨q,e⟩
 ·rw [ite'_f (zaC (by omega))]
  have:=l33 (k:=k) (by omega) ha a.length 0 k (left - (a.length:Int)) (by omega) (by omega) (by omega) (by omega)
  rw [List.drop_zero] at this
  rw [show ((0:Int))=((0:Nat):Int) by rfl,this]
  rcases z7 (left - (a.length:Int)) (szR a) with ⟨q2,e2⟩ | ⟨q2,e2⟩<;>rw [e2]
  ·rw [zaK (by omega)]<;>(congr 6<;>omega)
  ·rw [zaq (by omega)]
 ·rw [ite'_t (by simp only [decide_eq_true_eq];omega),zaq (by omega)]
theorem l37 {k:Nat} (hk:2000001≤k) {a:Ovi.Rows} (ha:Fit (.list [.str,.int .i64,.bool]) (.list 3 a)) (hs:szR a≤1048576):∀ (m i n:Nat) (v:Ovi.Rows),Filled a v i 3→i+m=a.length→m < n→F37.L3 k (C k) n a (i:Int) v=some [(false,[.row 112 3 a])]:=by
 have hlen:=ha.len
 intro m;induction m with
 | zero =>
  intro i n v hv hm hn
  obtain ⟨n,rfl⟩:∃ j,n=j+1:=⟨n - 1,by omega⟩
  obtain rfl:i=a.length:=by omega
  rw [F37.L3.succ,ite'_f (lt_f (by omega)),hv.done]
 | succ m ih =>
  intro i n v hv hm hn
  obtain ⟨n,rfl⟩:∃ j,n=j+1:=⟨n - 1,by omega⟩
  obtain ⟨row,hr,hfr,hdr⟩:=ha.row (i:=i) (by omega)
  obtain ⟨d0,rr0,rfl,hd0,hfr0⟩:=Fits.cons hfr
  obtain ⟨x0,rfl,hx0⟩:=hd0.str
  obtain ⟨d1,rr1,rfl,hd1,hfr1⟩:=Fits.cons hfr0
  obtain ⟨x1,rfl,wx1⟩:=hd1.int
  obtain ⟨d2,rr2,rfl,hd2,hfr2⟩:=Fits.cons hfr1
  obtain ⟨x2,rfl⟩:=hd2.bool
  obtain rfl:=Fits.nil hfr2
  have hst:=hv.step hr rfl
  have hvl:=hv.1
  have hszr:=zbK hr
  rw [F37.L3.succ,ite'_t (lt_t (by omega)),ite'_t (zo (by omega))]
  simp only [Int.toNat_natCast,zF hr,zau hr,zaw hr,zab hr]
  simp only [List.getElem?_cons_zero,List.getElem?_cons_succ,Option.bind_some,zz,zV,zX,zN,zd,zu,zG,zh,zl,zx,zK,zS,zy,zJ,bne_self_eq_false,beq_self_eq_true,Bool.not_true]
  rw [c72 (k:=k) (by omega) (a1:=x1) (a2:=x2) hx0 ]
  simp only [List.getElem?_cons_zero,List.getElem?_cons_succ,Option.bind_some,zz,zV,zX,zN,zd,zu,zG,zh,zl,zx,zK,zS,zy,zJ,bne_self_eq_false,beq_self_eq_true,Bool.not_true]
  simp only [zo6,zo7,zo8]
  simp only [List.getElem?_cons_zero,List.getElem?_cons_succ,Option.bind_some,zz,zV,zX,zN,zd,zu,zG,zh,zl,zx,zK,zS,zy,zJ,bne_self_eq_false,beq_self_eq_true,Bool.not_true]
  rw [ite'_t (zo (by omega)),zaj (m:=a.length) (by omega) (by omega) hlen]
  rw [show ((i:Int)+1)=((i+1:Nat):Int) by omega]
  exact ih (i+1) n _ hst (by omega) (by omega)
theorem c37 {k:Nat} (hk:2000002≤k) {a:Ovi.Rows} (ha:Fit (.list [.str,.int .i64,.bool]) (.list 3 a)) (hs:szD (.list 3 a)≤1048576):C k 37 [.d (.list 3 a)]=some [(false,[.row 112 3 a])]:=by
 obtain ⟨k,rfl⟩:∃ j,k=j+1:=⟨k - 1,by omega⟩
 simp only [szD] at hs
 rw [F37.run,ite'_t (zhn _),ite'_t (zhE (by omega))]
 exact l37 (k:=k) (by omega) ha (by omega) a.length 0 k _ (Filled.start a _) (by omega) (by omega)
theorem l46 {k:Nat} (hk:2000001≤k) {a:Ovi.Rows} (ha:Fit (.list [.str,.int .i64,.bool]) (.list 3 a)) (hs:szR a≤1048576):∀ (m i n:Nat),i+m=a.length→m < n→F46.L4 k (C k) n a a (i:Int)=some [(false,[.d (.bool true)])]:=by
 have hlen:=ha.len
 intro m;induction m with
 | zero =>
  intro i n hm hn
  obtain ⟨n,rfl⟩:∃ j,n=j+1:=⟨n - 1,by omega⟩
  rw [F46.L4.succ,ite'_f (lt_f (by omega))]
 | succ m ih =>
  intro i n hm hn
  obtain ⟨n,rfl⟩:∃ j,n=j+1:=⟨n - 1,by omega⟩
  obtain ⟨row,hr,hfr,hdr⟩:=ha.row (i:=i) (by omega)
  obtain ⟨d0,rr0,rfl,hd0,hfr0⟩:=Fits.cons hfr
  obtain ⟨x0,rfl,hx0⟩:=hd0.str
  obtain ⟨d1,rr1,rfl,hd1,hfr1⟩:=Fits.cons hfr0
  obtain ⟨x1,rfl,wx1⟩:=hd1.int
  obtain ⟨d2,rr2,rfl,hd2,hfr2⟩:=Fits.cons hfr1
  obtain ⟨x2,rfl⟩:=hd2.bool
  obtain rfl:=Fits.nil hfr2
  have hszr:=zbK hr
  rw [F46.L4.succ,ite'_t (lt_t (by omega)),ite'_t (zo (by omega))]
  simp only [Int.toNat_natCast,zF hr,zau hr,zaw hr,zab hr]
  simp only [List.getElem?_cons_zero,List.getElem?_cons_succ,Option.bind_some,zz,zV,zX,zN,zd,zu,zG,zh,zl,zx,zK,zS,zy,zJ,bne_self_eq_false,beq_self_eq_true,Bool.not_true]
  rw [ite'_t (zo (by omega))]
  rw [c94 (k:=k) (by omega) (a1:=x1) (a2:=x2) hx0 ]
  simp only [List.getElem?_cons_zero,List.getElem?_cons_succ,Option.bind_some,zz,zV,zX,zN,zd,zu,zG,zh,zl,zx,zK,zS,zy,zJ,bne_self_eq_false,beq_self_eq_true,Bool.not_true]
  rw [ite'_f rfl,zaj (m:=a.length) (by omega) (by omega) hlen]
  rw [show ((i:Int)+1)=((i+1:Nat):Int) by omega]
  exact ih (i+1) n (by omega) (by omega)
theorem c46 {k:Nat} (hk:2000002≤k) {a:Ovi.Rows} (ha:Fit (.list [.str,.int .i64,.bool]) (.list 3 a)) (hs:szD (.list 3 a)≤1048576):C k 46 [.d (.list 3 a),.d (.list 3 a)]=some [(false,[.d (.bool true)])]:=by
 obtain ⟨k,rfl⟩:∃ j,k=j+1:=⟨k - 1,by omega⟩
 simp only [szD] at hs
 rw [F46.run,ite'_f (zf6 _)]
 exact l46 (k:=k) (by omega) ha (by omega) a.length 0 k (by omega) (by omega)
theorem c66 {k:Nat} (hk:2000002≤k) {a0:Int} {a1:Ovi.Rows} (ha1:Fit (.list [.int .i64]) (.list 1 a1)) {left:Int} (h0:0≤left) (h1:left≤1048576):C k 66 [.agg [.d (.int .i64 a0),.d (.list 1 a1)],.d (.int .i64 left)]=some [(false,[.d (.int .i64 (szT left (szC [.int .i64 a0,.list 1 a1])))])]:=by
 obtain ⟨k,rfl⟩:∃ j,k=j+1:=⟨k - 1,by omega⟩
 have eT:szC [.int .i64 a0,.list 1 a1]=(szD (.list 1 a1)):=by simp only [szC,szD]<;>omega
 rw [eT,F66.run]
 rw [c100 (k:=k) (by omega)  ha1 (left:=left) (by omega) (by omega)]
 simp only [List.getElem?_cons_zero,List.getElem?_cons_succ,Option.bind_some,zz,zV,zX,zN,zd,zu,zG,zh,zl,zx,zK,zS,zy,zJ,bne_self_eq_false,beq_self_eq_true,Bool.not_true]
 rcases z7 (left) (szD (.list 1 a1)) with ⟨q0,e0⟩ | ⟨q0,e0⟩<;>rw [e0]
 rotate_left
 ·rw [ite'_t (by simp only [decide_eq_true_eq];omega)]<;>first | rfl | rw [zaq (by omega)]
 rw [ite'_f (zaC (by omega))]<;>first | rfl | (rw [zaK (by omega)]<;>(congr 6<;>omega))
theorem zo9 {a0:Int} {a1:Ovi.Rows}:resI .i64 1 true 2 [(true,[.d (.int .i64 a0),.row 3 1 a1])] 0 0=some a0:=rfl
theorem zpa {a0:Int} {a1:Ovi.Rows}:resO 3 1 1 true 2 [(true,[.d (.int .i64 a0),.row 3 1 a1])] 0 1=some a1:=rfl
theorem c73 {k:Nat} (hk:2000002≤k) {a0:Int} {a1:Ovi.Rows} (ha1:Fit (.list [.int .i64]) (.list 1 a1)) (s1:szD (.list 1 a1)≤1048576):C k 73 [.agg [.d (.int .i64 a0),.d (.list 1 a1)]]=some [(true,[.d (.int .i64 a0),.row 3 1 a1])]:=by
 obtain ⟨k,rfl⟩:∃ j,k=j+1:=⟨k - 1,by omega⟩
 rw [F73.run]
 rw [c11 (k:=k) (by omega)  ha1 s1]
 simp only [List.getElem?_cons_zero,List.getElem?_cons_succ,Option.bind_some,zz,zV,zX,zN,zd,zu,zG,zh,zl,zx,zK,zS,zy,zJ,bne_self_eq_false,beq_self_eq_true,Bool.not_true]
theorem c93 {k:Nat} (hk:2000002≤k) {a0:Int} {a1:Ovi.Rows} (ha1:Fit (.list [.int .i64]) (.list 1 a1)) (s1:szD (.list 1 a1)≤1048576):C k 93 [.agg [.d (.int .i64 a0),.d (.list 1 a1)],.agg [.d (.int .i64 a0),.d (.list 1 a1)]]=some [(false,[.d (.bool true)])]:=by
 obtain ⟨k,rfl⟩:∃ j,k=j+1:=⟨k - 1,by omega⟩
 rw [F93.run]
 rw [c16 (k:=k) (by omega)  ha1 s1]
 simp only [List.getElem?_cons_zero,List.getElem?_cons_succ,Option.bind_some,zz,zV,zX,zN,zd,zu,zG,zh,zl,zx,zK,zS,zy,zJ,bne_self_eq_false,beq_self_eq_true,Bool.not_true]
 rfl
theorem c95 {k:Nat} (hk:2000002≤k) {a0:Int} {a1:Ovi.Rows} (ha1:Fit (.list [.int .i64]) (.list 1 a1)) (s1:szD (.list 1 a1)≤1048576):C k 95 [.agg [.d (.int .i64 a0),.d (.list 1 a1)],.agg [.d (.int .i64 a0),.d (.list 1 a1)]]=some [(false,[.d (.bool true)])]:=by
 obtain ⟨k,rfl⟩:∃ j,k=j+1:=⟨k - 1,by omega⟩
 rw [F95.run]
 rw [c16 (k:=k) (by omega)  ha1 s1]
 simp only [List.getElem?_cons_zero,List.getElem?_cons_succ,Option.bind_some,zz,zV,zX,zN,zd,zu,zG,zh,zl,zx,zK,zS,zy,zJ,bne_self_eq_false,beq_self_eq_true,Bool.not_true]
 rfl
theorem c115 {k:Nat} (hk:2000002≤k) {a0:Int} {a1:Ovi.Rows} (ha1:Fit (.list [.int .i64]) (.list 1 a1)) {left:Int} (h0:0≤left) (h1:left≤1048576):C k 115 [.agg [.d (.int .i64 a0),.d (.list 1 a1)],.d (.int .i64 left)]=some [(false,[.d (.int .i64 (szT left (szC [.int .i64 a0,.list 1 a1])))])]:=by
 obtain ⟨k,rfl⟩:∃ j,k=j+1:=⟨k - 1,by omega⟩
 have eT:szC [.int .i64 a0,.list 1 a1]=(szD (.list 1 a1)):=by simp only [szC,szD]<;>omega
 rw [eT,F115.run]
 rw [c100 (k:=k) (by omega)  ha1 (left:=left) (by omega) (by omega)]
 simp only [List.getElem?_cons_zero,List.getElem?_cons_succ,Option.bind_some,zz,zV,zX,zN,zd,zu,zG,zh,zl,zx,zK,zS,zy,zJ,bne_self_eq_false,beq_self_eq_true,Bool.not_true]
 rcases z7 (left) (szD (.list 1 a1)) with ⟨q0,e0⟩ | ⟨q0,e0⟩<;>rw [e0]
 rotate_left
 ·rw [ite'_t (by simp only [decide_eq_true_eq];omega)]<;>first | rfl | rw [zaq (by omega)]
 rw [ite'_f (zaC (by omega))]<;>first | rfl | (rw [zaK (by omega)]<;>(congr 6<;>omega))
theorem znQ {a0:Int} {a1:Ovi.Rows}:resI .i64 1 true 2 [(true,[.d (.int .i64 a0),.row 3 1 a1])] 0 0=some a0:=rfl
theorem znR {a0:Int} {a1:Ovi.Rows}:resO 3 1 1 true 2 [(true,[.d (.int .i64 a0),.row 3 1 a1])] 0 1=some a1:=rfl
theorem c126 {k:Nat} (hk:2000002≤k) {a0:Int} {a1:Ovi.Rows} (ha1:Fit (.list [.int .i64]) (.list 1 a1)) (s1:szD (.list 1 a1)≤1048576):C k 126 [.agg [.d (.int .i64 a0),.d (.list 1 a1)]]=some [(true,[.d (.int .i64 a0),.row 3 1 a1])]:=by
 obtain ⟨k,rfl⟩:∃ j,k=j+1:=⟨k - 1,by omega⟩
 rw [F126.run]
 rw [c11 (k:=k) (by omega)  ha1 s1]
 simp only [List.getElem?_cons_zero,List.getElem?_cons_succ,Option.bind_some,zz,zV,zX,zN,zd,zu,zG,zh,zl,zx,zK,zS,zy,zJ,bne_self_eq_false,beq_self_eq_true,Bool.not_true]
theorem c153 {k:Nat} (hk:2000002≤k) {a0:Int} {a1:Ovi.Rows} (ha1:Fit (.list [.int .i64]) (.list 1 a1)) (s1:szD (.list 1 a1)≤1048576):C k 153 [.agg [.d (.int .i64 a0),.d (.list 1 a1)],.agg [.d (.int .i64 a0),.d (.list 1 a1)]]=some [(false,[.d (.bool true)])]:=by
 obtain ⟨k,rfl⟩:∃ j,k=j+1:=⟨k - 1,by omega⟩
 rw [F153.run]
 rw [c16 (k:=k) (by omega)  ha1 s1]
 simp only [List.getElem?_cons_zero,List.getElem?_cons_succ,Option.bind_some,zz,zV,zX,zN,zd,zu,zG,zh,zl,zx,zK,zS,zy,zJ,bne_self_eq_false,beq_self_eq_true,Bool.not_true]
 rfl
theorem l34 {k:Nat} (hk:2000002≤k) {a:Ovi.Rows} (ha:Fit (.list [.int .i64,.list [.int .i64]]) (.list 2 a)):∀ (m i n:Nat) (left:Int),0≤left→left≤1048576→i+m=a.length→m < n→F34.L5 k (C k) n a left (i:Int)=some [(false,[.d (.int .i64 (szT left (szR (a.drop i))))])]:=by
 have hlen:=ha.len
 intro m;induction m with
 | zero =>
  intro i n left h0 h1 hm hn
  obtain ⟨n,rfl⟩:∃ j,n=j+1:=⟨n - 1,by omega⟩
  rw [F34.L5.succ,ite'_f (lt_f (by omega)),List.drop_eq_nil_of_le (by omega)]
  simp only [szR,zaK (left:=left) (s:=0) (by omega)]
  simp
 | succ m ih =>
  intro i n left h0 h1 hm hn
  obtain ⟨n,rfl⟩:∃ j,n=j+1:=⟨n - 1,by omega⟩
  obtain ⟨row,hr,hfr,hdr⟩:=ha.row (i:=i) (by omega)
  obtain ⟨d0,rr0,rfl,hd0,hfr0⟩:=Fits.cons hfr
  obtain ⟨x0,rfl,wx0⟩:=hd0.int
  obtain ⟨d1,rr1,rfl,hd1,hfr1⟩:=Fits.cons hfr0
  obtain ⟨x1,rfl,hx1⟩:=hd1.list (n:=1) rfl
  obtain rfl:=Fits.nil hfr1
  have eR:szR (a.drop i)=szC [.int .i64 x0,.list 1 x1]+szR (a.drop (i+1)):=by rw [hdr];rfl
  rw [F34.L5.succ,ite'_t (lt_t (by omega)),ite'_t (zo (by omega)),eR]
  simp only [Int.toNat_natCast,zF hr,zau hr,zaw hr,zab hr]
  simp only [List.getElem?_cons_zero,List.getElem?_cons_succ,Option.bind_some,zz,zV,zX,zN,zd,zu,zG,zh,zl,zx,zK,zS,zy,zJ,bne_self_eq_false,beq_self_eq_true,Bool.not_true]
  have cc:=c66 (k:=k) (by omega) (a0:=x0) hx1 h0 h1
  rw [cc]
  simp only [List.getElem?_cons_zero,List.getElem?_cons_succ,Option.bind_some,zz,zV,zX,zN,zd,zu,zG,zh,zl,zx,zK,zS,zy,zJ,bne_self_eq_false,beq_self_eq_true,Bool.not_true]
  rcases z7 left (szC [.int .i64 x0,.list 1 x1]) with ⟨q,e⟩ | ⟨q,e⟩<;>rw [e]
  ·rw [ite'_f (zaC (by omega)),zaj (m:=a.length) (by omega) (by omega) hlen]
   have:=ih (i+1) n (left - ((szC [.int .i64 x0,.list 1 x1]:Nat):Int)) (by omega) (by omega) (by omega) (by omega)
   rw [show ((i:Int)+1)=((i+1:Nat):Int) by omega,this]
   rcases z7 (left - ((szC [.int .i64 x0,.list 1 x1]:Nat):Int)) (szR (a.drop (i+1))) with ⟨q2,e2⟩ | ⟨q2,e2⟩<;>rw [e2]
   ·rw [zaK (by omega)]<;>(congr 6<;>omega)
   ·rw [zaq (by omega)]
  ·rw [ite'_t zdW,zaq (by omega)]
theorem c34 {k:Nat} (hk:2000003≤k) {a:Ovi.Rows} (ha:Fit (.list [.int .i64,.list [.int .i64]]) (.list 2 a)) {left:Int} (h0:0≤left) (h1:left≤1048576):C k 34 [.d (.list 2 a),.d (.int .i64 left)]=some [(false,[.d (.int .i64 (szT left (szD (.list 2 a))))])]:=by
 obtain ⟨k,rfl⟩:∃ j,k=j+1:=⟨k - 1,by omega⟩
 have hlen:=ha.len;unfold maxLen at hlen
 rw [F34.run,zac (by omega) (by omega)]
 have eD:szD (.list 2 a)=a.length+szR a:=by simp only [szD]
 rw [eD]
 rcases z7 left a.length with ⟨q,e⟩ | ⟨q,e⟩
 ·rw [ite'_f (zaC (by omega))]
  have:=l34 (k:=k) (by omega) ha a.length 0 k (left - (a.length:Int)) (by omega) (by omega) (by omega) (by omega)
  rw [List.drop_zero] at this
  rw [show ((0:Int))=((0:Nat):Int) by rfl,this]
  rcases z7 (left - (a.length:Int)) (szR a) with ⟨q2,e2⟩ | ⟨q2,e2⟩<;>rw [e2]
  ·rw [zaK (by omega)]<;>(congr 6<;>omega)
  ·rw [zaq (by omega)]
 ·rw [ite'_t (by simp only [decide_eq_true_eq];omega),zaq (by omega)]
theorem l38 {k:Nat} (hk:2000002≤k) {a:Ovi.Rows} (ha:Fit (.list [.int .i64,.list [.int .i64]]) (.list 2 a)) (hs:szR a≤1048576):∀ (m i n:Nat) (v:Ovi.Rows),Filled a v i 2→i+m=a.length→m < n→F38.L3 k (C k) n a (i:Int) v=some [(false,[.frow 114 2 1 a])]:=by
 have hlen:=ha.len
 intro m;induction m with
 | zero =>
  intro i n v hv hm hn
  obtain ⟨n,rfl⟩:∃ j,n=j+1:=⟨n - 1,by omega⟩
  obtain rfl:i=a.length:=by omega
  rw [F38.L3.succ,ite'_f (lt_f (by omega)),hv.done]
 | succ m ih =>
  intro i n v hv hm hn
  obtain ⟨n,rfl⟩:∃ j,n=j+1:=⟨n - 1,by omega⟩
  obtain ⟨row,hr,hfr,hdr⟩:=ha.row (i:=i) (by omega)
  obtain ⟨d0,rr0,rfl,hd0,hfr0⟩:=Fits.cons hfr
  obtain ⟨x0,rfl,wx0⟩:=hd0.int
  obtain ⟨d1,rr1,rfl,hd1,hfr1⟩:=Fits.cons hfr0
  obtain ⟨x1,rfl,hx1⟩:=hd1.list (n:=1) rfl
  obtain rfl:=Fits.nil hfr1
  have hst:=hv.step hr rfl
  have hvl:=hv.1
  have hszr:=zbK hr
  rw [F38.L3.succ,ite'_t (lt_t (by omega)),ite'_t (zo (by omega))]
  simp only [Int.toNat_natCast,zF hr,zau hr,zaw hr,zab hr]
  simp only [List.getElem?_cons_zero,List.getElem?_cons_succ,Option.bind_some,zz,zV,zX,zN,zd,zu,zG,zh,zl,zx,zK,zS,zy,zJ,bne_self_eq_false,beq_self_eq_true,Bool.not_true]
  rw [c73 (k:=k) (by omega) (a0:=x0) hx1 (by simp only [szC,szD] at hszr ⊢;omega)]
  simp only [List.getElem?_cons_zero,List.getElem?_cons_succ,Option.bind_some,zz,zV,zX,zN,zd,zu,zG,zh,zl,zx,zK,zS,zy,zJ,bne_self_eq_false,beq_self_eq_true,Bool.not_true]
  simp only [zo9,zpa]
  simp only [List.getElem?_cons_zero,List.getElem?_cons_succ,Option.bind_some,zz,zV,zX,zN,zd,zu,zG,zh,zl,zx,zK,zS,zy,zJ,bne_self_eq_false,beq_self_eq_true,Bool.not_true]
  rw [ite'_t (zo (by omega)),zaj (m:=a.length) (by omega) (by omega) hlen]
  rw [show ((i:Int)+1)=((i+1:Nat):Int) by omega]
  exact ih (i+1) n _ hst (by omega) (by omega)
theorem c38 {k:Nat} (hk:2000003≤k) {a:Ovi.Rows} (ha:Fit (.list [.int .i64,.list [.int .i64]]) (.list 2 a)) (hs:szD (.list 2 a)≤1048576):C k 38 [.d (.list 2 a)]=some [(false,[.frow 114 2 1 a])]:=by
 obtain ⟨k,rfl⟩:∃ j,k=j+1:=⟨k - 1,by omega⟩
 simp only [szD] at hs
 rw [F38.run,ite'_t (zhn _),ite'_t (zhE (by omega))]
 exact l38 (k:=k) (by omega) ha (by omega) a.length 0 k _ (Filled.start a _) (by omega) (by omega)
theorem l45 {k:Nat} (hk:2000002≤k) {a:Ovi.Rows} (ha:Fit (.list [.int .i64,.list [.int .i64]]) (.list 2 a)) (hs:szR a≤1048576):∀ (m i n:Nat),i+m=a.length→m < n→F45.L4 k (C k) n a a (i:Int)=some [(false,[.d (.bool true)])]:=by
 have hlen:=ha.len
 intro m;induction m with
 | zero =>
  intro i n hm hn
  obtain ⟨n,rfl⟩:∃ j,n=j+1:=⟨n - 1,by omega⟩
  rw [F45.L4.succ,ite'_f (lt_f (by omega))]
 | succ m ih =>
  intro i n hm hn
  obtain ⟨n,rfl⟩:∃ j,n=j+1:=⟨n - 1,by omega⟩
  obtain ⟨row,hr,hfr,hdr⟩:=ha.row (i:=i) (by omega)
  obtain ⟨d0,rr0,rfl,hd0,hfr0⟩:=Fits.cons hfr
  obtain ⟨x0,rfl,wx0⟩:=hd0.int
  obtain ⟨d1,rr1,rfl,hd1,hfr1⟩:=Fits.cons hfr0
  obtain ⟨x1,rfl,hx1⟩:=hd1.list (n:=1) rfl
  obtain rfl:=Fits.nil hfr1
  have hszr:=zbK hr
  rw [F45.L4.succ,ite'_t (lt_t (by omega)),ite'_t (zo (by omega))]
  simp only [Int.toNat_natCast,zF hr,zau hr,zaw hr,zab hr]
  simp only [List.getElem?_cons_zero,List.getElem?_cons_succ,Option.bind_some,zz,zV,zX,zN,zd,zu,zG,zh,zl,zx,zK,zS,zy,zJ,bne_self_eq_false,beq_self_eq_true,Bool.not_true]
  rw [ite'_t (zo (by omega))]
  rw [c93 (k:=k) (by omega) (a0:=x0) hx1 (by simp only [szC,szD] at hszr ⊢;omega)]
  simp only [List.getElem?_cons_zero,List.getElem?_cons_succ,Option.bind_some,zz,zV,zX,zN,zd,zu,zG,zh,zl,zx,zK,zS,zy,zJ,bne_self_eq_false,beq_self_eq_true,Bool.not_true]
  rw [ite'_f rfl,zaj (m:=a.length) (by omega) (by omega) hlen]
  rw [show ((i:Int)+1)=((i+1:Nat):Int) by omega]
  exact ih (i+1) n (by omega) (by omega)
theorem c45 {k:Nat} (hk:2000003≤k) {a:Ovi.Rows} (ha:Fit (.list [.int .i64,.list [.int .i64]]) (.list 2 a)) (hs:szD (.list 2 a)≤1048576):C k 45 [.d (.list 2 a),.d (.list 2 a)]=some [(false,[.d (.bool true)])]:=by
 obtain ⟨k,rfl⟩:∃ j,k=j+1:=⟨k - 1,by omega⟩
 simp only [szD] at hs
 rw [F45.run,ite'_f (zf6 _)]
 exact l45 (k:=k) (by omega) ha (by omega) a.length 0 k (by omega) (by omega)
theorem l47 {k:Nat} (hk:2000002≤k) {a:Ovi.Rows} (ha:Fit (.list [.int .i64,.list [.int .i64]]) (.list 2 a)) (hs:szR a≤1048576):∀ (m i n:Nat),i+m=a.length→m < n→F47.L4 k (C k) n a a (i:Int)=some [(false,[.d (.bool true)])]:=by
 have hlen:=ha.len
 intro m;induction m with
 | zero =>
  intro i n hm hn
  obtain ⟨n,rfl⟩:∃ j,n=j+1:=⟨n - 1,by omega⟩
  rw [F47.L4.succ,ite'_f (lt_f (by omega))]
 | succ m ih =>
  intro i n hm hn
  obtain ⟨n,rfl⟩:∃ j,n=j+1:=⟨n - 1,by omega⟩
  obtain ⟨row,hr,hfr,hdr⟩:=ha.row (i:=i) (by omega)
  obtain ⟨d0,rr0,rfl,hd0,hfr0⟩:=Fits.cons hfr
  obtain ⟨x0,rfl,wx0⟩:=hd0.int
  obtain ⟨d1,rr1,rfl,hd1,hfr1⟩:=Fits.cons hfr0
  obtain ⟨x1,rfl,hx1⟩:=hd1.list (n:=1) rfl
  obtain rfl:=Fits.nil hfr1
  have hszr:=zbK hr
  rw [F47.L4.succ,ite'_t (lt_t (by omega)),ite'_t (zo (by omega))]
  simp only [Int.toNat_natCast,zF hr,zau hr,zaw hr,zab hr]
  simp only [List.getElem?_cons_zero,List.getElem?_cons_succ,Option.bind_some,zz,zV,zX,zN,zd,zu,zG,zh,zl,zx,zK,zS,zy,zJ,bne_self_eq_false,beq_self_eq_true,Bool.not_true]
  rw [ite'_t (zo (by omega))]
  rw [c95 (k:=k) (by omega) (a0:=x0) hx1 (by simp only [szC,szD] at hszr ⊢;omega)]
  simp only [List.getElem?_cons_zero,List.getElem?_cons_succ,Option.bind_some,zz,zV,zX,zN,zd,zu,zG,zh,zl,zx,zK,zS,zy,zJ,bne_self_eq_false,beq_self_eq_true,Bool.not_true]
  rw [ite'_f rfl,zaj (m:=a.length) (by omega) (by omega) hlen]
  rw [show ((i:Int)+1)=((i+1:Nat):Int) by omega]
  exact ih (i+1) n (by omega) (by omega)
theorem c47 {k:Nat} (hk:2000003≤k) {a:Ovi.Rows} (ha:Fit (.list [.int .i64,.list [.int .i64]]) (.list 2 a)) (hs:szD (.list 2 a)≤1048576):C k 47 [.d (.list 2 a),.d (.list 2 a)]=some [(false,[.d (.bool true)])]:=by
 obtain ⟨k,rfl⟩:∃ j,k=j+1:=⟨k - 1,by omega⟩
 simp only [szD] at hs
 rw [F47.run,ite'_f (zf6 _)]
 exact l47 (k:=k) (by omega) ha (by omega) a.length 0 k (by omega) (by omega)
theorem l67 {k:Nat} (hk:2000002≤k) {a:Ovi.Rows} (ha:Fit (.list [.int .i64,.list [.int .i64]]) (.list 2 a)):∀ (m i n:Nat) (left:Int),0≤left→left≤1048576→i+m=a.length→m < n→F67.L5 k (C k) n a left (i:Int)=some [(false,[.d (.int .i64 (szT left (szR (a.drop i))))])]:=by
 have hlen:=ha.len
 intro m;induction m with
 | zero =>
  intro i n left h0 h1 hm hn
  obtain ⟨n,rfl⟩:∃ j,n=j+1:=⟨n - 1,by omega⟩
  rw [F67.L5.succ,ite'_f (lt_f (by omega)),List.drop_eq_nil_of_le (by omega)]
  simp only [szR,zaK (left:=left) (s:=0) (by omega)]
  simp
 | succ m ih =>
  intro i n left h0 h1 hm hn
  obtain ⟨n,rfl⟩:∃ j,n=j+1:=⟨n - 1,by omega⟩
  obtain ⟨row,hr,hfr,hdr⟩:=ha.row (i:=i) (by omega)
  obtain ⟨d0,rr0,rfl,hd0,hfr0⟩:=Fits.cons hfr
  obtain ⟨x0,rfl,wx0⟩:=hd0.int
  obtain ⟨d1,rr1,rfl,hd1,hfr1⟩:=Fits.cons hfr0
  obtain ⟨x1,rfl,hx1⟩:=hd1.list (n:=1) rfl
  obtain rfl:=Fits.nil hfr1
  have eR:szR (a.drop i)=szC [.int .i64 x0,.list 1 x1]+szR (a.drop (i+1)):=by rw [hdr];rfl
  rw [F67.L5.succ,ite'_t (lt_t (by omega)),ite'_t (zo (by omega)),eR]
  simp only [Int.toNat_natCast,zF hr,zau hr,zaw hr,zab hr]
  simp only [List.getElem?_cons_zero,List.getElem?_cons_succ,Option.bind_some,zz,zV,zX,zN,zd,zu,zG,zh,zl,zx,zK,zS,zy,zJ,bne_self_eq_false,beq_self_eq_true,Bool.not_true]
  have cc:=c115 (k:=k) (by omega) (a0:=x0) hx1 h0 h1
  rw [cc]
  simp only [List.getElem?_cons_zero,List.getElem?_cons_succ,Option.bind_some,zz,zV,zX,zN,zd,zu,zG,zh,zl,zx,zK,zS,zy,zJ,bne_self_eq_false,beq_self_eq_true,Bool.not_true]
  rcases z7 left (szC [.int .i64 x0,.list 1 x1]) with ⟨q,e⟩ | ⟨q,e⟩<;>rw [e]
  ·rw [ite'_f (zaC (by omega)),zaj (m:=a.length) (by omega) (by omega) hlen]
   have:=ih (i+1) n (left - ((szC [.int .i64 x0,.list 1 x1]:Nat):Int)) (by omega) (by omega) (by omega) (by omega)
   rw [show ((i:Int)+1)=((i+1:Nat):Int) by omega,this]
   rcases z7 (left - ((szC [.int .i64 x0,.list 1 x1]:Nat):Int)) (szR (a.drop (i+1))) with ⟨q2,e2⟩ | ⟨q2,e2⟩<;>rw [e2]
   ·rw [zaK (by omega)]<;>(congr 6<;>omega)
   ·rw [zaq (by omega)]
  ·rw [ite'_t zdW,zaq (by omega)]
theorem c67 {k:Nat} (hk:2000003≤k) {a:Ovi.Rows} (ha:Fit (.list [.int .i64,.list [.int .i64]]) (.list 2 a)) {left:Int} (h0:0≤left) (h1:left≤1048576):C k 67 [.d (.list 2 a),.d (.int .i64 left)]=some [(false,[.d (.int .i64 (szT left (szD (.list 2 a))))])]:=by
 obtain ⟨k,rfl⟩:∃ j,k=j+1:=⟨k - 1,by omega⟩
 have hlen:=ha.len;unfold maxLen at hlen
 rw [F67.run,zac (by omega) (by omega)]
 have eD:szD (.list 2 a)=a.length+szR a:=by simp only [szD]
 rw [eD]
 rcases z7 left a.length with ⟨q,e⟩ | ⟨q,e⟩
 ·rw [ite'_f (zaC (by omega))]
  have:=l67 (k:=k) (by omega) ha a.length 0 k (left - (a.length:Int)) (by omega) (by omega) (by omega) (by omega)
  rw [List.drop_zero] at this
  rw [show ((0:Int))=((0:Nat):Int) by rfl,this]
  rcases z7 (left - (a.length:Int)) (szR a) with ⟨q2,e2⟩ | ⟨q2,e2⟩<;>rw [e2]
  ·rw [zaK (by omega)]<;>(congr 6<;>omega)
  ·rw [zaq (by omega)]
 ·rw [ite'_t (by simp only [decide_eq_true_eq];omega),zaq (by omega)]
theorem l74 {k:Nat} (hk:2000002≤k) {a:Ovi.Rows} (ha:Fit (.list [.int .i64,.list [.int .i64]]) (.list 2 a)) (hs:szR a≤1048576):∀ (m i n:Nat) (v:Ovi.Rows),Filled a v i 2→i+m=a.length→m < n→F74.L3 k (C k) n a (i:Int) v=some [(false,[.frow 133 2 1 a])]:=by
 have hlen:=ha.len
 intro m;induction m with
 | zero =>
  intro i n v hv hm hn
  obtain ⟨n,rfl⟩:∃ j,n=j+1:=⟨n - 1,by omega⟩
  obtain rfl:i=a.length:=by omega
  rw [F74.L3.succ,ite'_f (lt_f (by omega)),hv.done]
 | succ m ih =>
  intro i n v hv hm hn
  obtain ⟨n,rfl⟩:∃ j,n=j+1:=⟨n - 1,by omega⟩
  obtain ⟨row,hr,hfr,hdr⟩:=ha.row (i:=i) (by omega)
  obtain ⟨d0,rr0,rfl,hd0,hfr0⟩:=Fits.cons hfr
  obtain ⟨x0,rfl,wx0⟩:=hd0.int
  obtain ⟨d1,rr1,rfl,hd1,hfr1⟩:=Fits.cons hfr0
  obtain ⟨x1,rfl,hx1⟩:=hd1.list (n:=1) rfl
  obtain rfl:=Fits.nil hfr1
  have hst:=hv.step hr rfl
  have hvl:=hv.1
  have hszr:=zbK hr
  rw [F74.L3.succ,ite'_t (lt_t (by omega)),ite'_t (zo (by omega))]
  simp only [Int.toNat_natCast,zF hr,zau hr,zaw hr,zab hr]
  simp only [List.getElem?_cons_zero,List.getElem?_cons_succ,Option.bind_some,zz,zV,zX,zN,zd,zu,zG,zh,zl,zx,zK,zS,zy,zJ,bne_self_eq_false,beq_self_eq_true,Bool.not_true]
  rw [c126 (k:=k) (by omega) (a0:=x0) hx1 (by simp only [szC,szD] at hszr ⊢;omega)]
  simp only [List.getElem?_cons_zero,List.getElem?_cons_succ,Option.bind_some,zz,zV,zX,zN,zd,zu,zG,zh,zl,zx,zK,zS,zy,zJ,bne_self_eq_false,beq_self_eq_true,Bool.not_true]
  simp only [znQ,znR]
  simp only [List.getElem?_cons_zero,List.getElem?_cons_succ,Option.bind_some,zz,zV,zX,zN,zd,zu,zG,zh,zl,zx,zK,zS,zy,zJ,bne_self_eq_false,beq_self_eq_true,Bool.not_true]
  rw [ite'_t (zo (by omega)),zaj (m:=a.length) (by omega) (by omega) hlen]
  rw [show ((i:Int)+1)=((i+1:Nat):Int) by omega]
  exact ih (i+1) n _ hst (by omega) (by omega)
theorem c74 {k:Nat} (hk:2000003≤k) {a:Ovi.Rows} (ha:Fit (.list [.int .i64,.list [.int .i64]]) (.list 2 a)) (hs:szD (.list 2 a)≤1048576):C k 74 [.d (.list 2 a)]=some [(false,[.frow 133 2 1 a])]:=by
 obtain ⟨k,rfl⟩:∃ j,k=j+1:=⟨k - 1,by omega⟩
 simp only [szD] at hs
 rw [F74.run,ite'_t (zhn _),ite'_t (zhE (by omega))]
 exact l74 (k:=k) (by omega) ha (by omega) a.length 0 k _ (Filled.start a _) (by omega) (by omega)
theorem l96 {k:Nat} (hk:2000002≤k) {a:Ovi.Rows} (ha:Fit (.list [.int .i64,.list [.int .i64]]) (.list 2 a)) (hs:szR a≤1048576):∀ (m i n:Nat),i+m=a.length→m < n→F96.L4 k (C k) n a a (i:Int)=some [(false,[.d (.bool true)])]:=by
 have hlen:=ha.len
 intro m;induction m with
 | zero =>
  intro i n hm hn
  obtain ⟨n,rfl⟩:∃ j,n=j+1:=⟨n - 1,by omega⟩
  rw [F96.L4.succ,ite'_f (lt_f (by omega))]
 | succ m ih =>
  intro i n hm hn
  obtain ⟨n,rfl⟩:∃ j,n=j+1:=⟨n - 1,by omega⟩
  obtain ⟨row,hr,hfr,hdr⟩:=ha.row (i:=i) (by omega)
  obtain ⟨d0,rr0,rfl,hd0,hfr0⟩:=Fits.cons hfr
  obtain ⟨x0,rfl,wx0⟩:=hd0.int
  obtain ⟨d1,rr1,rfl,hd1,hfr1⟩:=Fits.cons hfr0
  obtain ⟨x1,rfl,hx1⟩:=hd1.list (n:=1) rfl
  obtain rfl:=Fits.nil hfr1
  have hszr:=zbK hr
  rw [F96.L4.succ,ite'_t (lt_t (by omega)),ite'_t (zo (by omega))]
  simp only [Int.toNat_natCast,zF hr,zau hr,zaw hr,zab hr]
  simp only [List.getElem?_cons_zero,List.getElem?_cons_succ,Option.bind_some,zz,zV,zX,zN,zd,zu,zG,zh,zl,zx,zK,zS,zy,zJ,bne_self_eq_false,beq_self_eq_true,Bool.not_true]
  rw [ite'_t (zo (by omega))]
  rw [c153 (k:=k) (by omega) (a0:=x0) hx1 (by simp only [szC,szD] at hszr ⊢;omega)]
  simp only [List.getElem?_cons_zero,List.getElem?_cons_succ,Option.bind_some,zz,zV,zX,zN,zd,zu,zG,zh,zl,zx,zK,zS,zy,zJ,bne_self_eq_false,beq_self_eq_true,Bool.not_true]
  rw [ite'_f rfl,zaj (m:=a.length) (by omega) (by omega) hlen]
  rw [show ((i:Int)+1)=((i+1:Nat):Int) by omega]
  exact ih (i+1) n (by omega) (by omega)
theorem c96 {k:Nat} (hk:2000003≤k) {a:Ovi.Rows} (ha:Fit (.list [.int .i64,.list [.int .i64]]) (.list 2 a)) (hs:szD (.list 2 a)≤1048576):C k 96 [.d (.list 2 a),.d (.list 2 a)]=some [(false,[.d (.bool true)])]:=by
 obtain ⟨k,rfl⟩:∃ j,k=j+1:=⟨k - 1,by omega⟩
 simp only [szD] at hs
 rw [F96.run,ite'_f (zf6 _)]
 exact l96 (k:=k) (by omega) ha (by omega) a.length 0 k (by omega) (by omega)
theorem c6 {k:Nat} (hk:2000004≤k) {a0:Ovi.Rows} (ha0:Fit (.list [.str,.int .i64,.bool]) (.list 3 a0)) {a1:Ovi.Rows} (ha1:Fit (.list [.int .i64,.list [.int .i64]]) (.list 2 a1)) {left:Int} (h0:0≤left) (h1:left≤1048576):C k 6 [.agg [.d (.list 3 a0),.d (.list 2 a1)],.d (.int .i64 left)]=some [(false,[.d (.int .i64 (szT left (szC [.list 3 a0,.list 2 a1])))])]:=by
 obtain ⟨k,rfl⟩:∃ j,k=j+1:=⟨k - 1,by omega⟩
 have eT:szC [.list 3 a0,.list 2 a1]=(szD (.list 3 a0))+(szD (.list 2 a1)):=by simp only [szC,szD]<;>omega
 rw [eT,F6.run]
 rw [c33 (k:=k) (by omega)  ha0 (left:=left) (by omega) (by omega)]
 simp only [List.getElem?_cons_zero,List.getElem?_cons_succ,Option.bind_some,zz,zV,zX,zN,zd,zu,zG,zh,zl,zx,zK,zS,zy,zJ,bne_self_eq_false,beq_self_eq_true,Bool.not_true]
 rcases z7 (left) (szD (.list 3 a0)) with ⟨q0,e0⟩ | ⟨q0,e0⟩<;>rw [e0]
 rotate_left
 ·rw [ite'_t (by simp only [decide_eq_true_eq];omega)]<;>first | rfl | rw [zaq (by omega)]
 rw [ite'_f (zaC (by omega))]
 rw [c34 (k:=k) (by omega)  ha1 (left:=left - ((szD (.list 3 a0):Nat):Int)) (by omega) (by omega)]
 simp only [List.getElem?_cons_zero,List.getElem?_cons_succ,Option.bind_some,zz,zV,zX,zN,zd,zu,zG,zh,zl,zx,zK,zS,zy,zJ,bne_self_eq_false,beq_self_eq_true,Bool.not_true]
 rcases z7 (left - ((szD (.list 3 a0):Nat):Int)) (szD (.list 2 a1)) with ⟨q1,e1⟩ | ⟨q1,e1⟩<;>rw [e1]
 rotate_left
 ·rw [ite'_t (by simp only [decide_eq_true_eq];omega)]<;>first | rfl | rw [zaq (by omega)]
 rw [ite'_f (zaC (by omega))]<;>first | rfl | (rw [zaK (by omega)]<;>(congr 6<;>omega))
theorem c9 {k:Nat} (hk:2000004≤k) {a0:Ovi.Rows} (ha0:Fit (.list [.str,.int .i64,.bool]) (.list 3 a0)) {a1:Ovi.Rows} (ha1:Fit (.list [.int .i64,.list [.int .i64]]) (.list 2 a1)) (s0:szD (.list 3 a0)≤1048576) (s1:szD (.list 2 a1)≤1048576):C k 9 [.agg [.d (.list 3 a0),.d (.list 2 a1)]]=some [(true,[.row 112 3 a0,.frow 114 2 1 a1])]:=by
 obtain ⟨k,rfl⟩:∃ j,k=j+1:=⟨k - 1,by omega⟩
 rw [F9.run]
 rw [c37 (k:=k) (by omega)  ha0 s0]
 simp only [List.getElem?_cons_zero,List.getElem?_cons_succ,Option.bind_some,zz,zV,zX,zN,zd,zu,zG,zh,zl,zx,zK,zS,zy,zJ,bne_self_eq_false,beq_self_eq_true,Bool.not_true]
 rw [c38 (k:=k) (by omega)  ha1 s1]
 simp only [List.getElem?_cons_zero,List.getElem?_cons_succ,Option.bind_some,zz,zV,zX,zN,zd,zu,zG,zh,zl,zx,zK,zS,zy,zJ,bne_self_eq_false,beq_self_eq_true,Bool.not_true]
theorem c14 {k:Nat} (hk:2000004≤k) {a0:Ovi.Rows} (ha0:Fit (.list [.str,.int .i64,.bool]) (.list 3 a0)) {a1:Ovi.Rows} (ha1:Fit (.list [.int .i64,.list [.int .i64]]) (.list 2 a1)) (s0:szD (.list 3 a0)≤1048576) (s1:szD (.list 2 a1)≤1048576):C k 14 [.agg [.d (.list 3 a0),.d (.list 2 a1)],.agg [.d (.list 3 a0),.d (.list 2 a1)]]=some [(false,[.d (.bool true)])]:=by
 obtain ⟨k,rfl⟩:∃ j,k=j+1:=⟨k - 1,by omega⟩
 rw [F14.run]
 rw [c46 (k:=k) (by omega)  ha0 s0]
 rw [c47 (k:=k) (by omega)  ha1 s1]
 simp only [List.getElem?_cons_zero,List.getElem?_cons_succ,Option.bind_some,zz,zV,zX,zN,zd,zu,zG,zh,zl,zx,zK,zS,zy,zJ,bne_self_eq_false,beq_self_eq_true,Bool.not_true]
 rfl
theorem c35 {k:Nat} (hk:2000004≤k) {a0:Ovi.Rows} (ha0:Fit (.list [.int .i64,.list [.int .i64]]) (.list 2 a0)) {a1:Ovi.Rows} (ha1:Fit (.list [.int .i64,.list [.int .i64]]) (.list 2 a1)) {a2:Bool} {a3:Int} {a4:Int} {left:Int} (h0:0≤left) (h1:left≤1048576):C k 35 [.agg [.d (.list 2 a0),.d (.list 2 a1),.d (.bool a2),.d (.int .i64 a3),.d (.int .i64 a4)],.d (.int .i64 left)]=some [(false,[.d (.int .i64 (szT left (szC [.list 2 a0,.list 2 a1,.bool a2,.int .i64 a3,.int .i64 a4])))])]:=by
 obtain ⟨k,rfl⟩:∃ j,k=j+1:=⟨k - 1,by omega⟩
 have eT:szC [.list 2 a0,.list 2 a1,.bool a2,.int .i64 a3,.int .i64 a4]=(szD (.list 2 a0))+(szD (.list 2 a1)):=by simp only [szC,szD]<;>omega
 rw [eT,F35.run]
 rw [c67 (k:=k) (by omega)  ha0 (left:=left) (by omega) (by omega)]
 simp only [List.getElem?_cons_zero,List.getElem?_cons_succ,Option.bind_some,zz,zV,zX,zN,zd,zu,zG,zh,zl,zx,zK,zS,zy,zJ,bne_self_eq_false,beq_self_eq_true,Bool.not_true]
 rcases z7 (left) (szD (.list 2 a0)) with ⟨q0,e0⟩ | ⟨q0,e0⟩<;>rw [e0]
 rotate_left
 ·rw [ite'_t (by simp only [decide_eq_true_eq];omega)]<;>first | rfl | rw [zaq (by omega)]
 rw [ite'_f (zaC (by omega))]
 rw [c67 (k:=k) (by omega)  ha1 (left:=left - ((szD (.list 2 a0):Nat):Int)) (by omega) (by omega)]
 simp only [List.getElem?_cons_zero,List.getElem?_cons_succ,Option.bind_some,zz,zV,zX,zN,zd,zu,zG,zh,zl,zx,zK,zS,zy,zJ,bne_self_eq_false,beq_self_eq_true,Bool.not_true]
 rcases z7 (left - ((szD (.list 2 a0):Nat):Int)) (szD (.list 2 a1)) with ⟨q1,e1⟩ | ⟨q1,e1⟩<;>rw [e1]
 rotate_left
 ·rw [ite'_t (by simp only [decide_eq_true_eq];omega)]<;>first | rfl | rw [zaq (by omega)]
 rw [ite'_f (zaC (by omega))]<;>first | rfl | (rw [zaK (by omega)]<;>(congr 6<;>omega))
theorem zo1 {a0:Ovi.Rows} {a1:Ovi.Rows} {a2:Bool} {a3:Int} {a4:Int}:resF 133 2 1 1 true 5 [(true,[.frow 133 2 1 a0,.frow 133 2 1 a1,.d (.bool a2),.d (.int .i64 a3),.d (.int .i64 a4)])] 0 0=some a0:=rfl
theorem zo2 {a0:Ovi.Rows} {a1:Ovi.Rows} {a2:Bool} {a3:Int} {a4:Int}:resF 133 2 1 1 true 5 [(true,[.frow 133 2 1 a0,.frow 133 2 1 a1,.d (.bool a2),.d (.int .i64 a3),.d (.int .i64 a4)])] 0 1=some a1:=rfl
theorem zo3 {a0:Ovi.Rows} {a1:Ovi.Rows} {a2:Bool} {a3:Int} {a4:Int}:resB 1 true 5 [(true,[.frow 133 2 1 a0,.frow 133 2 1 a1,.d (.bool a2),.d (.int .i64 a3),.d (.int .i64 a4)])] 0 2=some a2:=rfl
theorem zo4 {a0:Ovi.Rows} {a1:Ovi.Rows} {a2:Bool} {a3:Int} {a4:Int}:resI .i64 1 true 5 [(true,[.frow 133 2 1 a0,.frow 133 2 1 a1,.d (.bool a2),.d (.int .i64 a3),.d (.int .i64 a4)])] 0 3=some a3:=rfl
theorem zo5 {a0:Ovi.Rows} {a1:Ovi.Rows} {a2:Bool} {a3:Int} {a4:Int}:resI .i64 1 true 5 [(true,[.frow 133 2 1 a0,.frow 133 2 1 a1,.d (.bool a2),.d (.int .i64 a3),.d (.int .i64 a4)])] 0 4=some a4:=rfl
theorem c39 {k:Nat} (hk:2000004≤k) {a0:Ovi.Rows} (ha0:Fit (.list [.int .i64,.list [.int .i64]]) (.list 2 a0)) {a1:Ovi.Rows} (ha1:Fit (.list [.int .i64,.list [.int .i64]]) (.list 2 a1)) {a2:Bool} {a3:Int} {a4:Int} (s0:szD (.list 2 a0)≤1048576) (s1:szD (.list 2 a1)≤1048576):C k 39 [.agg [.d (.list 2 a0),.d (.list 2 a1),.d (.bool a2),.d (.int .i64 a3),.d (.int .i64 a4)]]=some [(true,[.frow 133 2 1 a0,.frow 133 2 1 a1,.d (.bool a2),.d (.int .i64 a3),.d (.int .i64 a4)])]:=by
 obtain ⟨k,rfl⟩:∃ j,k=j+1:=⟨k - 1,by omega⟩
 rw [F39.run]
 rw [c74 (k:=k) (by omega)  ha0 s0]
 simp only [List.getElem?_cons_zero,List.getElem?_cons_succ,Option.bind_some,zz,zV,zX,zN,zd,zu,zG,zh,zl,zx,zK,zS,zy,zJ,bne_self_eq_false,beq_self_eq_true,Bool.not_true]
 rw [c74 (k:=k) (by omega)  ha1 s1]
 simp only [List.getElem?_cons_zero,List.getElem?_cons_succ,Option.bind_some,zz,zV,zX,zN,zd,zu,zG,zh,zl,zx,zK,zS,zy,zJ,bne_self_eq_false,beq_self_eq_true,Bool.not_true]
theorem c48 {k:Nat} (hk:2000004≤k) {a0:Ovi.Rows} (ha0:Fit (.list [.int .i64,.list [.int .i64]]) (.list 2 a0)) {a1:Ovi.Rows} (ha1:Fit (.list [.int .i64,.list [.int .i64]]) (.list 2 a1)) {a2:Bool} {a3:Int} {a4:Int} (s0:szD (.list 2 a0)≤1048576) (s1:szD (.list 2 a1)≤1048576):C k 48 [.agg [.d (.list 2 a0),.d (.list 2 a1),.d (.bool a2),.d (.int .i64 a3),.d (.int .i64 a4)],.agg [.d (.list 2 a0),.d (.list 2 a1),.d (.bool a2),.d (.int .i64 a3),.d (.int .i64 a4)]]=some [(false,[.d (.bool true)])]:=by
 obtain ⟨k,rfl⟩:∃ j,k=j+1:=⟨k - 1,by omega⟩
 rw [F48.run]
 rw [c96 (k:=k) (by omega)  ha0 s0]
 rw [c96 (k:=k) (by omega)  ha1 s1]
 simp only [List.getElem?_cons_zero,List.getElem?_cons_succ,Option.bind_some,zz,zV,zX,zN,zd,zu,zG,zh,zl,zx,zK,zS,zy,zJ,bne_self_eq_false,beq_self_eq_true,Bool.not_true]
 rfl
theorem l7 {k:Nat} (hk:2000004≤k) {a:Ovi.Rows} (ha:Fit (.list [.list [.int .i64,.list [.int .i64]],.list [.int .i64,.list [.int .i64]],.bool,.int .i64,.int .i64]) (.list 5 a)):∀ (m i n:Nat) (left:Int),0≤left→left≤1048576→i+m=a.length→m < n→F7.L5 k (C k) n a left (i:Int)=some [(false,[.d (.int .i64 (szT left (szR (a.drop i))))])]:=by
 have hlen:=ha.len
 intro m;induction m with
 | zero =>
  intro i n left h0 h1 hm hn
  obtain ⟨n,rfl⟩:∃ j,n=j+1:=⟨n - 1,by omega⟩
  rw [F7.L5.succ,ite'_f (lt_f (by omega)),List.drop_eq_nil_of_le (by omega)]
  simp only [szR,zaK (left:=left) (s:=0) (by omega)]
  simp
 | succ m ih =>
  intro i n left h0 h1 hm hn
  obtain ⟨n,rfl⟩:∃ j,n=j+1:=⟨n - 1,by omega⟩
  obtain ⟨row,hr,hfr,hdr⟩:=ha.row (i:=i) (by omega)
  obtain ⟨d0,rr0,rfl,hd0,hfr0⟩:=Fits.cons hfr
  obtain ⟨x0,rfl,hx0⟩:=hd0.list (n:=2) rfl
  obtain ⟨d1,rr1,rfl,hd1,hfr1⟩:=Fits.cons hfr0
  obtain ⟨x1,rfl,hx1⟩:=hd1.list (n:=2) rfl
  obtain ⟨d2,rr2,rfl,hd2,hfr2⟩:=Fits.cons hfr1
  obtain ⟨x2,rfl⟩:=hd2.bool
  obtain ⟨d3,rr3,rfl,hd3,hfr3⟩:=Fits.cons hfr2
  obtain ⟨x3,rfl,wx3⟩:=hd3.int
  obtain ⟨d4,rr4,rfl,hd4,hfr4⟩:=Fits.cons hfr3
  obtain ⟨x4,rfl,wx4⟩:=hd4.int
  obtain rfl:=Fits.nil hfr4
  have eR:szR (a.drop i)=szC [.list 2 x0,.list 2 x1,.bool x2,.int .i64 x3,.int .i64 x4]+szR (a.drop (i+1)):=by rw [hdr];rfl
  rw [F7.L5.succ,ite'_t (lt_t (by omega)),ite'_t (zo (by omega)),eR]
  simp only [Int.toNat_natCast,zF hr,zau hr,zaw hr,zab hr]
  simp only [List.getElem?_cons_zero,List.getElem?_cons_succ,Option.bind_some,zz,zV,zX,zN,zd,zu,zG,zh,zl,zx,zK,zS,zy,zJ,bne_self_eq_false,beq_self_eq_true,Bool.not_true]
  have cc:=c35 (k:=k) (by omega) (a2:=x2) (a3:=x3) (a4:=x4) hx0 hx1 h0 h1
  rw [cc]
  simp only [List.getElem?_cons_zero,List.getElem?_cons_succ,Option.bind_some,zz,zV,zX,zN,zd,zu,zG,zh,zl,zx,zK,zS,zy,zJ,bne_self_eq_false,beq_self_eq_true,Bool.not_true]
  rcases z7 left (szC [.list 2 x0,.list 2 x1,.bool x2,.int .i64 x3,.int .i64 x4]) with ⟨q,e⟩ | ⟨q,e⟩<;>rw [e]
  ·rw [ite'_f (zaC (by omega)),zaj (m:=a.length) (by omega) (by omega) hlen]
   have:=ih (i+1) n (left - ((szC [.list 2 x0,.list 2 x1,.bool x2,.int .i64 x3,.int .i64 x4]:Nat):Int)) (by omega) (by omega) (by omega) (by omega)
   rw [show ((i:Int)+1)=((i+1:Nat):Int) by omega,this]
   rcases z7 (left - ((szC [.list 2 x0,.list 2 x1,.bool x2,.int .i64 x3,.int .i64 x4]:Nat):Int)) (szR (a.drop (i+1))) with ⟨q2,e2⟩ | ⟨q2,e2⟩<;>rw [e2]
   ·rw [zaK (by omega)]<;>(congr 6<;>omega)
   ·rw [zaq (by omega)]
  ·rw [ite'_t zdW,zaq (by omega)]
theorem c7 {k:Nat} (hk:2000005≤k) {a:Ovi.Rows} (ha:Fit (.list [.list [.int .i64,.list [.int .i64]],.list [.int .i64,.list [.int .i64]],.bool,.int .i64,.int .i64]) (.list 5 a)) {left:Int} (h0:0≤left) (h1:left≤1048576):C k 7 [.d (.list 5 a),.d (.int .i64 left)]=some [(false,[.d (.int .i64 (szT left (szD (.list 5 a))))])]:=by
 obtain ⟨k,rfl⟩:∃ j,k=j+1:=⟨k - 1,by omega⟩
 have hlen:=ha.len;unfold maxLen at hlen
 rw [F7.run,zac (by omega) (by omega)]
 have eD:szD (.list 5 a)=a.length+szR a:=by simp only [szD]
 rw [eD]
 rcases z7 left a.length with ⟨q,e⟩ | ⟨q,e⟩
 ·rw [ite'_f (zaC (by omega))]
  have:=l7 (k:=k) (by omega) ha a.length 0 k (left - (a.length:Int)) (by omega) (by omega) (by omega) (by omega)
  rw [List.drop_zero] at this
  rw [show ((0:Int))=((0:Nat):Int) by rfl,this]
  rcases z7 (left - (a.length:Int)) (szR a) with ⟨q2,e2⟩ | ⟨q2,e2⟩<;>rw [e2]
  ·rw [zaK (by omega)]<;>(congr 6<;>omega)
  ·rw [zaq (by omega)]
 ·rw [ite'_t (by simp only [decide_eq_true_eq];omega),zaq (by omega)]
theorem l10 {k:Nat} (hk:2000004≤k) {a:Ovi.Rows} (ha:Fit (.list [.list [.int .i64,.list [.int .i64]],.list [.int .i64,.list [.int .i64]],.bool,.int .i64,.int .i64]) (.list 5 a)) (hs:szR a≤1048576):∀ (m i n:Nat) (v:Ovi.Rows),Filled a v i 5→i+m=a.length→m < n→F10.L3 k (C k) n a (i:Int) v=some [(false,[.frow 76 5 2 a])]:=by
 have hlen:=ha.len
 intro m;induction m with
 | zero =>
  intro i n v hv hm hn
  obtain ⟨n,rfl⟩:∃ j,n=j+1:=⟨n - 1,by omega⟩
  obtain rfl:i=a.length:=by omega
  rw [F10.L3.succ,ite'_f (lt_f (by omega)),hv.done]
 | succ m ih =>
  intro i n v hv hm hn
  obtain ⟨n,rfl⟩:∃ j,n=j+1:=⟨n - 1,by omega⟩
  obtain ⟨row,hr,hfr,hdr⟩:=ha.row (i:=i) (by omega)
  obtain ⟨d0,rr0,rfl,hd0,hfr0⟩:=Fits.cons hfr
  obtain ⟨x0,rfl,hx0⟩:=hd0.list (n:=2) rfl
  obtain ⟨d1,rr1,rfl,hd1,hfr1⟩:=Fits.cons hfr0
  obtain ⟨x1,rfl,hx1⟩:=hd1.list (n:=2) rfl
  obtain ⟨d2,rr2,rfl,hd2,hfr2⟩:=Fits.cons hfr1
  obtain ⟨x2,rfl⟩:=hd2.bool
  obtain ⟨d3,rr3,rfl,hd3,hfr3⟩:=Fits.cons hfr2
  obtain ⟨x3,rfl,wx3⟩:=hd3.int
  obtain ⟨d4,rr4,rfl,hd4,hfr4⟩:=Fits.cons hfr3
  obtain ⟨x4,rfl,wx4⟩:=hd4.int
  obtain rfl:=Fits.nil hfr4
  have hst:=hv.step hr rfl
  have hvl:=hv.1
  have hszr:=zbK hr
  rw [F10.L3.succ,ite'_t (lt_t (by omega)),ite'_t (zo (by omega))]
  simp only [Int.toNat_natCast,zF hr,zau hr,zaw hr,zab hr]
  simp only [List.getElem?_cons_zero,List.getElem?_cons_succ,Option.bind_some,zz,zV,zX,zN,zd,zu,zG,zh,zl,zx,zK,zS,zy,zJ,bne_self_eq_false,beq_self_eq_true,Bool.not_true]
  rw [c39 (k:=k) (by omega) (a2:=x2) (a3:=x3) (a4:=x4) hx0 hx1 (by simp only [szC,szD] at hszr ⊢;omega) (by simp only [szC,szD] at hszr ⊢;omega)]
  simp only [List.getElem?_cons_zero,List.getElem?_cons_succ,Option.bind_some,zz,zV,zX,zN,zd,zu,zG,zh,zl,zx,zK,zS,zy,zJ,bne_self_eq_false,beq_self_eq_true,Bool.not_true]
  simp only [zo1,zo2,zo3,zo4,zo5]
  simp only [List.getElem?_cons_zero,List.getElem?_cons_succ,Option.bind_some,zz,zV,zX,zN,zd,zu,zG,zh,zl,zx,zK,zS,zy,zJ,bne_self_eq_false,beq_self_eq_true,Bool.not_true]
  rw [ite'_t (zo (by omega)),zaj (m:=a.length) (by omega) (by omega) hlen]
  rw [show ((i:Int)+1)=((i+1:Nat):Int) by omega]
  exact ih (i+1) n _ hst (by omega) (by omega)
theorem c10 {k:Nat} (hk:2000005≤k) {a:Ovi.Rows} (ha:Fit (.list [.list [.int .i64,.list [.int .i64]],.list [.int .i64,.list [.int .i64]],.bool,.int .i64,.int .i64]) (.list 5 a)) (hs:szD (.list 5 a)≤1048576):C k 10 [.d (.list 5 a)]=some [(false,[.frow 76 5 2 a])]:=by
 obtain ⟨k,rfl⟩:∃ j,k=j+1:=⟨k - 1,by omega⟩
 simp only [szD] at hs
 rw [F10.run,ite'_t (zhn _),ite'_t (zhE (by omega))]
 exact l10 (k:=k) (by omega) ha (by omega) a.length 0 k _ (Filled.start a _) (by omega) (by omega)
theorem c13 {k:Nat} (hk:2000005≤k) {a0:Ovi.Rows} (ha0:Fit (.list [.str,.int .i64,.bool]) (.list 3 a0)) {a1:Ovi.Rows} (ha1:Fit (.list [.int .i64,.list [.int .i64]]) (.list 2 a1)) {a2:Int} {a3:Ovi.Rows} (ha3:Fit (.list [.int .i64,.list [.int .i64]]) (.list 2 a3)) (s0:szD (.list 3 a0)≤1048576) (s1:szD (.list 2 a1)≤1048576) (s3:szD (.list 2 a3)≤1048576):C k 13 [.agg [.d (.list 3 a0),.d (.list 2 a1),.d (.int .i64 a2),.d (.list 2 a3)],.agg [.d (.list 3 a0),.d (.list 2 a1),.d (.int .i64 a2),.d (.list 2 a3)]]=some [(false,[.d (.bool true)])]:=by
 obtain ⟨k,rfl⟩:∃ j,k=j+1:=⟨k - 1,by omega⟩
 rw [F13.run]
 rw [c14 (k:=k) (by omega)  ha0 ha1 s0 s1]
 rw [c45 (k:=k) (by omega)  ha3 s3]
 simp only [List.getElem?_cons_zero,List.getElem?_cons_succ,Option.bind_some,zz,zV,zX,zN,zd,zu,zG,zh,zl,zx,zK,zS,zy,zJ,bne_self_eq_false,beq_self_eq_true,Bool.not_true]
 rfl
theorem l15 {k:Nat} (hk:2000004≤k) {a:Ovi.Rows} (ha:Fit (.list [.list [.int .i64,.list [.int .i64]],.list [.int .i64,.list [.int .i64]],.bool,.int .i64,.int .i64]) (.list 5 a)) (hs:szR a≤1048576):∀ (m i n:Nat),i+m=a.length→m < n→F15.L4 k (C k) n a a (i:Int)=some [(false,[.d (.bool true)])]:=by
 have hlen:=ha.len
 intro m;induction m with
 | zero =>
  intro i n hm hn
  obtain ⟨n,rfl⟩:∃ j,n=j+1:=⟨n - 1,by omega⟩
  rw [F15.L4.succ,ite'_f (lt_f (by omega))]
 | succ m ih =>
  intro i n hm hn
  obtain ⟨n,rfl⟩:∃ j,n=j+1:=⟨n - 1,by omega⟩
  obtain ⟨row,hr,hfr,hdr⟩:=ha.row (i:=i) (by omega)
  obtain ⟨d0,rr0,rfl,hd0,hfr0⟩:=Fits.cons hfr
  obtain ⟨x0,rfl,hx0⟩:=hd0.list (n:=2) rfl
  obtain ⟨d1,rr1,rfl,hd1,hfr1⟩:=Fits.cons hfr0
  obtain ⟨x1,rfl,hx1⟩:=hd1.list (n:=2) rfl
  obtain ⟨d2,rr2,rfl,hd2,hfr2⟩:=Fits.cons hfr1
  obtain ⟨x2,rfl⟩:=hd2.bool
  obtain ⟨d3,rr3,rfl,hd3,hfr3⟩:=Fits.cons hfr2
  obtain ⟨x3,rfl,wx3⟩:=hd3.int
  obtain ⟨d4,rr4,rfl,hd4,hfr4⟩:=Fits.cons hfr3
  obtain ⟨x4,rfl,wx4⟩:=hd4.int
  obtain rfl:=Fits.nil hfr4
  have hszr:=zbK hr
  rw [F15.L4.succ,ite'_t (lt_t (by omega)),ite'_t (zo (by omega))]
  simp only [Int.toNat_natCast,zF hr,zau hr,zaw hr,zab hr]
  simp only [List.getElem?_cons_zero,List.getElem?_cons_succ,Option.bind_some,zz,zV,zX,zN,zd,zu,zG,zh,zl,zx,zK,zS,zy,zJ,bne_self_eq_false,beq_self_eq_true,Bool.not_true]
  rw [ite'_t (zo (by omega))]
  rw [c48 (k:=k) (by omega) (a2:=x2) (a3:=x3) (a4:=x4) hx0 hx1 (by simp only [szC,szD] at hszr ⊢;omega) (by simp only [szC,szD] at hszr ⊢;omega)]
  simp only [List.getElem?_cons_zero,List.getElem?_cons_succ,Option.bind_some,zz,zV,zX,zN,zd,zu,zG,zh,zl,zx,zK,zS,zy,zJ,bne_self_eq_false,beq_self_eq_true,Bool.not_true]
  rw [ite'_f rfl,zaj (m:=a.length) (by omega) (by omega) hlen]
  rw [show ((i:Int)+1)=((i+1:Nat):Int) by omega]
  exact ih (i+1) n (by omega) (by omega)
theorem c15 {k:Nat} (hk:2000005≤k) {a:Ovi.Rows} (ha:Fit (.list [.list [.int .i64,.list [.int .i64]],.list [.int .i64,.list [.int .i64]],.bool,.int .i64,.int .i64]) (.list 5 a)) (hs:szD (.list 5 a)≤1048576):C k 15 [.d (.list 5 a),.d (.list 5 a)]=some [(false,[.d (.bool true)])]:=by
 obtain ⟨k,rfl⟩:∃ j,k=j+1:=⟨k - 1,by omega⟩
 simp only [szD] at hs
 rw [F15.run,ite'_f (zf6 _)]
 exact l15 (k:=k) (by omega) ha (by omega) a.length 0 k (by omega) (by omega)
end Go.Proofs.YtiacahdabflcdaaGreat.Q
namespace Go.Proofs.YtiacahdabflcdaaGreat.Q
open Go Ovi
def bo (b:Bool):Option Res:=some [(false,[.d (.bool b)])]
theorem zaB {b c:Bool} (h:b=c):bo b=bo c:=by rw [h]
theorem c157 (k:Nat) (a l h:Int):C (k+1) 157 [.d (.int .i64 a),.d (.int .i64 l),.d (.int .i64 h)]=bo (decide (l≤a∧a≤h)):=by
 rw [F157.run]
 by_cases h1:l≤a
 ·rw [ite'_t (by simpa using h1)];exact zaB (by simp [h1])
 ·rw [ite'_f (by simpa using h1)];exact zaB (by simp [h1])
theorem c128 (k:Nat) (a l h:Int):C (k+1) 128 [.d (.int .i64 a),.d (.int .i64 l),.d (.int .i64 h)]=bo (decide (l≤a∧a≤h)):=by
 rw [F128.run]
 by_cases h1:l≤a
 ·rw [ite'_t (by simpa using h1)];exact zaB (by simp [h1])
 ·rw [ite'_f (by simpa using h1)];exact zaB (by simp [h1])
theorem bB (b:Bool) (k:Bool→Option Res):(zb (bo b) fun r=>zj (resB 1 false 1 r 0 0) k)=k b:=rfl
variable {k:Nat}
theorem c156 (zs:List Int) (v:Int) (hk:zs.length < k) (hz:zs.length≤maxLen):C (k+1) 156 [.d (.list 1 (I1 zs)),.d (.int .i64 v)]=bo (decide (v∈zs)):=by
 rw [F156.run]
 have:=zbE (xs:=zs) (L:=fun n i=>F156.L2 k (C k) n (I1 zs) v i) (stop:=fun x=>x==v) (hit:=bo true) (fin:=bo false)
  (fun n i x hx=>by
   have hi:=(List.getElem?_eq_some_iff.1 hx).1
   rw [F156.L2.succ,zn,ite'_t (lt_t hi),ite'_t (zo hi)]
   simp only [Int.toNat_natCast,zF (I1_get' hx),List.getElem?_cons_zero,Option.bind_some,zz,zd]
   rw [zE hi hz];rfl)
  (fun n=>by rw [F156.L2.succ,zn,ite'_f (lt_f (by omega))];rfl) k hk
 rw [show F156.L2 k (C k) k (I1 zs) v 0=_ from this]
 by_cases h:v∈zs
 ·rw [List.any_eq_true.2 ⟨v,h,by simp⟩];exact zaB (by simp [h])
 ·rw [show zs.any (fun x=>x==v)=false by rw [List.any_eq_false];intro x hx;simp;intro e;exact h (e▸hx)];exact zaB (by simp [h])
theorem c138 (zs:List Int) (v:Int) (hk:zs.length < k) (hz:zs.length≤maxLen):C (k+2) 138 [.d (.list 1 (I1 zs)),.d (.int .i64 v)]=bo (decide (v∈zs)):=by
 rw [F138.run,F180.run,zn]
 have:=zas (xs:=zs) (L:=fun n i=>F180.L2 k (C k) n (I1 zs) v (zs.length:Int) i) (stop:=fun _ x=>v==x) (hit:=fun i=>some [(false,[.d (.int .i64 (i:Int))])]) (fin:=some [(false,[.d (.int .i64 (-1))])])
  (fun n i x hx=>by
   have hi:=(List.getElem?_eq_some_iff.1 hx).1
   rw [F180.L2.succ,zn,ite'_t (lt_t hi),ite'_t (zo hi)]
   simp only [Int.toNat_natCast,zF (I1_get' hx),List.getElem?_cons_zero,Option.bind_some,zz,zd]
   rw [zE hi hz];rfl)
  (fun n=>by rw [F180.L2.succ,ite'_f (lt_f (by omega))]) k hk
 rcases this with ⟨i,x,hx,hst,e⟩ | ⟨hst,e⟩
 ·rw [show F180.L2 k (C k) k (I1 zs) v (zs.length:Int) 0=_ from e]
  simp only [zl,zx,zd]
  have:v=x:=by simpa using hst
  subst this
  exact zaB (by rw [decide_eq_true (List.mem_of_getElem? hx)];simp)
 ·rw [show F180.L2 k (C k) k (I1 zs) v (zs.length:Int) 0=_ from e]
  simp only [zl,zx,zd]
  refine zaB ?_
  rw [decide_eq_false (p:=v∈zs) (fun h=>?_)]
  ·rfl
  ·obtain ⟨i,hi⟩:=List.mem_iff_getElem?.1 h
   have:=hst i v hi
   simp at this
theorem c129 (zs:List Int) (f:FuncId) (caps:Ovi.Rows) (p:Int→Bool) (hk:zs.length < k) (hz:zs.length≤maxLen) (hp:∀ z∈zs,C k f (.d (.int .i64 z)::caps.map fun c=>.cap c 0)=bo (p z)):C (k+2) 129 [.d (.list 1 (I1 zs)),.d (.fn f caps)]=bo (zs.any p):=by
 rw [F129.run,F174.run,zn]
 have:=zas (xs:=zs) (L:=fun n i=>F174.L2 k (C k) n (I1 zs) f caps (zs.length:Int) i) (stop:=fun _ x=>p x) (hit:=fun i=>some [(false,[.d (.int .i64 (i:Int))])]) (fin:=some [(false,[.d (.int .i64 (-1))])])
  (fun n i x hx=>by
   have hi:=(List.getElem?_eq_some_iff.1 hx).1
   rw [F174.L2.succ,zn,ite'_t (lt_t hi),ite'_t (zo hi)]
   simp only [Int.toNat_natCast,zF (I1_get' hx),List.getElem?_cons_zero,Option.bind_some,zz,zd]
   rw [zE hi hz]
   have:=hp x (List.mem_of_getElem? hx)
   simp only [List.append_eq,List.nil_append] at this ⊢
   rw [this,bB];rfl)
  (fun n=>by rw [F174.L2.succ,ite'_f (lt_f (by omega))]) k hk
 rcases this with ⟨i,x,hx,hst,e⟩ | ⟨hst,e⟩
 ·rw [show F174.L2 k (C k) k (I1 zs) f caps (zs.length:Int) 0=_ from e]
  simp only [zl,zx,zd]
  exact zaB (by rw [List.any_eq_true.2 ⟨x,List.mem_of_getElem? hx,hst⟩];simp)
 ·rw [show F174.L2 k (C k) k (I1 zs) f caps (zs.length:Int) 0=_ from e]
  simp only [zl,zx,zd]
  refine zaB ?_
  rw [List.any_eq_false.2 (fun x hx=>?_)]
  ·rfl
  ·obtain ⟨i,hi⟩:=List.mem_iff_getElem?.1 hx
   simpa using hst i x hi
theorem c139 (xs:List Atom) (f:FuncId) (caps:Ovi.Rows) (p:Atom→Bool) (hk:xs.length < k) (hz:xs.length≤maxLen) (hp:∀ x∈xs,C k f (.agg [.d (.int .i64 x.1),.d (.list 1 (I1 x.2))]::caps.map fun c=>.cap c 0)=bo (p x)):C (k+2) 139 [.d (.list 2 (A1 xs)),.d (.fn f caps)]=bo (xs.any p):=by
 rw [F139.run,F181.run,zq]
 have:=zas (xs:=xs) (L:=fun n i=>F181.L2 k (C k) n (A1 xs) f caps (xs.length:Int) i) (stop:=fun _ x=>p x) (hit:=fun i=>some [(false,[.d (.int .i64 (i:Int))])]) (fin:=some [(false,[.d (.int .i64 (-1))])])
  (fun n i x hx=>by
   have hi:=(List.getElem?_eq_some_iff.1 hx).1
   rw [F181.L2.succ,zq,ite'_t (lt_t hi),ite'_t (zo hi)]
   simp only [Int.toNat_natCast,zF (zaG hx),zab (zaG hx),List.getElem?_cons_zero,List.getElem?_cons_succ,Option.bind_some,zz,zN,zd,zh]
   rw [zE hi hz]
   have:=hp x (List.mem_of_getElem? hx)
   simp only [List.append_eq,List.nil_append] at this ⊢
   rw [this,bB];rfl)
  (fun n=>by rw [F181.L2.succ,ite'_f (lt_f (by omega))]) k hk
 rcases this with ⟨i,x,hx,hst,e⟩ | ⟨hst,e⟩
 ·rw [show F181.L2 k (C k) k (A1 xs) f caps (xs.length:Int) 0=_ from e]
  simp only [zl,zx,zd]
  exact zaB (by rw [List.any_eq_true.2 ⟨x,List.mem_of_getElem? hx,hst⟩];simp)
 ·rw [show F181.L2 k (C k) k (A1 xs) f caps (xs.length:Int) 0=_ from e]
  simp only [zl,zx,zd]
  refine zaB ?_
  rw [List.any_eq_false.2 (fun x hx=>?_)]
  ·rfl
  ·obtain ⟨i,hi⟩:=List.mem_iff_getElem?.1 hx
   simpa using hst i x hi
def Rl:Ty:=.list [.str,.int .i64,.bool]
def zct (s:List UInt8) (n:Int):Bool:=decide (s.length=1)&&(decide (zbe s 0 ≥ 97)&&(decide (zbe s 0≤122)&&decide (1≤n∧n≤3)))
theorem c127 (s:List UInt8) (n:Int) (b:Bool):C (k+2) 127 [.agg [.d (.str s),.d (.int .i64 n),.d (.bool b)]]=bo (zct s n):=by
 rw [F127.run]
 by_cases h:s.length=1
 ·obtain ⟨h1,h2⟩:=zoK s h
  rw [ite'_t (by simp;omega),h1,h2,c128,bB]
  unfold zct
  rw [decide_eq_true h]
  cases decide (zbe s 0 ≥ 97)<;>cases decide (zbe s 0≤122)<;>rfl
 ·rw [ite'_f (by simp;omega)]
  unfold zct
  rw [decide_eq_false h]
  rfl
theorem c161 (s:List UInt8) (n:Int) (b:Bool):C (k+2) 161 [.agg [.d (.str s),.d (.int .i64 n),.d (.bool b)]]=bo (zct s n):=by
 rw [F161.run]
 by_cases h:s.length=1
 ·rw [ite'_t (by simp;omega),ite'_t (by simp [inR];omega),ite'_t (b:=inR 0 s.length) (by simp [inR];omega),c157,bB]
  unfold zct
  rw [decide_eq_true h]
  cases decide (zbe s 0 ≥ 97)<;>cases decide (zbe s 0≤122)<;>rfl
 ·rw [ite'_f (by simp;omega)]
  unfold zct
  rw [decide_eq_false h]
  rfl
def ar (a:Ovi.Rows) (r:Int):Int:=(zm .i64 a r.toNat 1).getD (-1)
theorem zna {a:Ovi.Rows} (ha:Fit Rl (.list 3 a)):∃ b,(b=true→∀ r:Int,0≤r→r < (a.length:Int)→ar a r≤3)∧∀ k,a.length < k→C (k+3) 75 [.d (.list 3 a)]=bo b∧C (k+3) 107 [.d (.list 3 a)]=bo b:=by
 have hlen:=ha.len
 have key:∀ (m i:Nat),i+m=a.length→∃ b,(b=true→∀ r:Int,(i:Int)≤r→r < (a.length:Int)→ar a r≤3)∧∀ k n,m < n→F75.L2 (k+2) (C (k+2)) n a a (a.length:Int) (i:Int)=bo b∧F107.L2 (k+2) (C (k+2)) n a (i:Int)=bo b:=by
  intro m
  induction m with
  | zero =>
   intro i hm
   refine ⟨decide ((a.length:Int)≤6),fun _ r h1 h2=>(by omega),fun k n hn=>?_⟩
   obtain ⟨n,rfl⟩:∃ j,n=j+1:=⟨n - 1,by omega⟩
   constructor
   ·rw [F75.L2.succ,ite'_f (lt_f (by omega))];rfl
   ·rw [F107.L2.succ,ite'_f (lt_f (by omega))];rfl
  | succ m ih =>
   intro i hm
   have hi:i < a.length:=by omega
   obtain ⟨row,hr,hfr,_⟩:=ha.row hi
   obtain ⟨d0,r0,rfl,f0,h1⟩:=Fits.cons hfr
   obtain ⟨d1,r1,rfl,f1,h1⟩:=Fits.cons h1
   obtain ⟨d2,r2,rfl,f2,h1⟩:=Fits.cons h1
   obtain rfl:=Fits.nil h1
   obtain ⟨s,rfl,hs⟩:=f0.str
   obtain ⟨x,rfl,_⟩:=f1.int
   obtain ⟨b,rfl⟩:=f2.bool
   obtain ⟨bb,ih3,ih⟩:=ih (i+1) (by omega)
   have har:zct s x=true→bb=true→∀ r:Int,(i:Int)≤r→r < (a.length:Int)→ar a r≤3:=by
    intro hv hbb r h1 h2
    by_cases hri:r=(i:Int)
    ·subst hri
     have:ar a (i:Int)=x:=by unfold ar;rw [Int.toNat_natCast,zF hr];simp [zz]
     unfold zct at hv
     simp only [Bool.and_eq_true,decide_eq_true_eq] at hv
     omega
    ·exact ih3 hbb r (by omega) h2
   have step:∀ k n,F75.L2 (k+2) (C (k+2)) (n+1) a a (a.length:Int) (i:Int)=ite' (!zct s x) (bo false) (ite' (decide ((i:Int) > 0)) (ite' (inR (IntKind.i64.wrap ((i:Int) - 1)) a.length) (zbl (zbm a (IntKind.i64.wrap ((i:Int) - 1)).toNat 0) fun s13=>ite' (zaX s s13||s==s13) (bo false) (F75.L2 (k+2) (C (k+2)) n a a (a.length:Int) ((i+1:Nat):Int))) none) (F75.L2 (k+2) (C (k+2)) n a a (a.length:Int) ((i+1:Nat):Int))) ∧
     F107.L2 (k+2) (C (k+2)) (n+1) a (i:Int)=ite' (!zct s x) (bo false) (ite' (decide ((i:Int) > 0)) (ite' (inR (IntKind.i64.wrap ((i:Int) - 1)) a.length) (zbl (zbm a (IntKind.i64.wrap ((i:Int) - 1)).toNat 0) fun s11=>ite' (!zaX s11 s) (bo false) (F107.L2 (k+2) (C (k+2)) n a ((i+1:Nat):Int))) none) (F107.L2 (k+2) (C (k+2)) n a ((i+1:Nat):Int))):=by
    intro k n
    rw [F75.L2.succ,F107.L2.succ,ite'_t (lt_t hi),ite'_t (zo hi),ite'_t (lt_t hi),ite'_t (zo hi)]
    simp only [Int.toNat_natCast,zF hr,zaw hr,zau hr,List.getElem?_cons_zero,List.getElem?_cons_succ,Option.bind_some,zz,zX,zV,zd,zG,zu]
    rw [c127,c161,zE hi hlen,bB,bB]
    refine ⟨rfl,?_⟩
    simp only [show ∀ x y:Option Res,ite' (inR (i:Int) a.length) x y=x from fun x y=>ite'_t (zo hi)]
    rfl
   cases hv:zct s x with
   | false =>
    refine ⟨false,fun h=>(by cases h),fun k n hn=>?_⟩
    obtain ⟨n,rfl⟩:∃ j,n=j+1:=⟨n - 1,by omega⟩
    obtain ⟨e1,e2⟩:=step k n
    rw [e1,e2,hv]
    exact ⟨rfl,rfl⟩
   | true =>
    by_cases h0:i=0
    ·subst h0
     refine ⟨bb,har hv,fun k n hn=>?_⟩
     obtain ⟨n,rfl⟩:∃ j,n=j+1:=⟨n - 1,by omega⟩
     obtain ⟨e1,e2⟩:=step k n
     rw [e1,e2,hv]
     exact ih k n (by omega)
    ·have hw:IntKind.i64.wrap ((i:Int) - 1)=((i - 1:Nat):Int):=by
      unfold maxLen at hlen
      rw [zac (by omega) (by omega)];omega
     obtain ⟨row',hr',hfr',_⟩:=ha.row (i:=i - 1) (by omega)
     obtain ⟨d0',r0',rfl,f0',h1'⟩:=Fits.cons hfr'
     obtain ⟨s',rfl,hs'⟩:=f0'.str
     have hcs:zbm a ((i - 1:Nat):Int).toNat 0=some s':=by rw [Int.toNat_natCast,zaw hr'];rfl
     have hgt:decide ((i:Int) > 0)=true:=by simp;omega
     have hin:inR ((i - 1:Nat):Int) a.length=true:=zo (by omega)
     cases hl:zaX s' s with
     | true =>
      refine ⟨bb,har hv,fun k n hn=>?_⟩
      obtain ⟨n,rfl⟩:∃ j,n=j+1:=⟨n - 1,by omega⟩
      obtain ⟨e1,e2⟩:=step k n
      rw [e1,e2,hv,hw,hgt,hin,hcs]
      simp only [zG]
      rw [zcL,hl]
      exact ih k n (by omega)
     | false =>
      refine ⟨false,fun h=>(by cases h),fun k n hn=>?_⟩
      obtain ⟨n,rfl⟩:∃ j,n=j+1:=⟨n - 1,by omega⟩
      obtain ⟨e1,e2⟩:=step k n
      rw [e1,e2,hv,hw,hgt,hin,hcs]
      simp only [zG]
      rw [zcL,hl]
      exact ⟨rfl,rfl⟩
 obtain ⟨b,hb3,hb⟩:=key a.length 0 (by omega)
 refine ⟨b,fun h r h1 h2=>hb3 h r (by omega) h2,fun k hk=>?_⟩
 rw [F75.run,F107.run]
 exact hb k (k+2) (by omega)
theorem rels {a:Ovi.Rows} (ha:Fit Rl (.list 3 a)):∃ b,∀ k,a.length < k→C (k+3) 75 [.d (.list 3 a)]=bo b∧C (k+3) 107 [.d (.list 3 a)]=bo b :=
 let ⟨b,_,h⟩:=zna ha;⟨b,h⟩
theorem atoms {a:Ovi.Rows} (ha:Fit Rl (.list 3 a)) (x:Atom) (hx2:x.2.length≤maxLen):∃ b,(b=true→(0≤x.1∧x.1 < (a.length:Int))∧(x.2.length:Int)=ar a x.1∧∀ t∈x.2, -10≤t∧t≤4)∧∀ k,a.length < k→x.2.length < k→C (k+5) 179 [.d (.list 3 a),.agg [.d (.int .i64 x.1),.d (.list 1 (I1 x.2))]]=bo b∧C (k+5) 155 [.d (.list 3 a),.agg [.d (.int .i64 x.1),.d (.list 1 (I1 x.2))]]=bo b:=by
 have hlen:=ha.len
 unfold maxLen at hlen
 obtain ⟨b,hb⟩:=rels ha
 have e:∀ k,a.length < k→C (k+4) 75 [.d (.list 3 a)]=bo b∧C (k+4) 107 [.d (.list 3 a)]=bo b:=fun k hk=>hb (k+1) (by omega)
 cases b with
 | false =>
  refine ⟨false,fun h=>(by cases h),fun k hk hx=>?_⟩
  rw [F179.run,F155.run,(e k hk).1,(e k hk).2,bB,bB]
  exact ⟨rfl,rfl⟩
 | true =>
  by_cases hr:0≤x.1∧x.1≤(a.length:Int) - 1
  ·obtain ⟨i,hi⟩:∃ i:Nat,x.1=i:=⟨x.1.toNat,by omega⟩
   have hia:i < a.length:=by omega
   obtain ⟨row,hrow,hfr,_⟩:=ha.row hia
   obtain ⟨d0,r0,rfl,f0,h1⟩:=Fits.cons hfr
   obtain ⟨d1,r1,rfl,f1,h1⟩:=Fits.cons h1
   obtain ⟨n,rfl,_⟩:=f1.int
   have hcn:zm .i64 a ((i:Int)).toNat 1=some n:=by rw [Int.toNat_natCast,zF hrow];simp [zz]
   by_cases hn:((I1 x.2).length:Int)=n
   ·refine ⟨!(x.2.any fun t=>!decide (-10≤t∧t≤4)),fun h=>⟨by omega,by unfold ar;rw [hi,hcn];rw [zn] at hn;exact hn,fun t ht=>by
     simp only [Bool.not_eq_true',List.any_eq_false,Bool.not_eq_true,decide_eq_false_iff_not,Decidable.not_not] at h
     exact h t ht⟩,fun k hk hx=>?_⟩
    rw [F179.run,F155.run,(e k hk).1,(e k hk).2,bB,bB,ite'_nt,ite'_nt,c128,c157,bB,bB,zac (by omega) (by omega),decide_eq_true hr,ite'_nt,ite'_nt,hi,ite'_t (zo hia),ite'_t (zo hia),hcn]
    simp only [zd]
    rw [ite'_f (by simpa using hn),ite'_f (b:=((I1 x.2).length:Int) != n) (by simpa using hn)]
    have e69:=c129 (k:=k+2) x.2 208 [] (fun t=>!decide (-10≤t∧t≤4)) (by omega) hx2 (fun z _=>by
     rw [List.map_nil,F208.run,c128 k,bB];rfl)
    rw [e69,bB]
    refine ⟨rfl,?_⟩
    have:=zbE (xs:=x.2) (L:=fun m j=>F155.L4 (k+4) (C (k+4)) m j (i:Int) (I1 x.2)) (stop:=fun t=>!decide (-10≤t∧t≤4)) (hit:=bo false) (fin:=bo true)
     (fun m j t ht=>by
      have hj:=(List.getElem?_eq_some_iff.1 ht).1
      rw [F155.L4.succ,zn,ite'_t (lt_t hj),ite'_t (zo hj)]
      simp only [Int.toNat_natCast,zF (I1_get' ht),List.getElem?_cons_zero,Option.bind_some,zz,zd]
      rw [c157,bB,zE hj hx2];rfl)
     (fun m=>by rw [F155.L4.succ,zn,ite'_f (lt_f (by omega))];rfl) (k+4) (by omega)
    rw [show F155.L4 (k+4) (C (k+4)) (k+4) 0 (i:Int) (I1 x.2)=_ from this]
    cases x.2.any (fun t=>!decide (-10≤t∧t≤4))<;>rfl
   ·refine ⟨false,fun h=>(by cases h),fun k hk hx=>?_⟩
    rw [F179.run,F155.run,(e k hk).1,(e k hk).2,bB,bB,ite'_nt,ite'_nt,c128,c157,bB,bB,zac (by omega) (by omega),decide_eq_true hr,ite'_nt,ite'_nt,hi,ite'_t (zo hia),ite'_t (zo hia),hcn]
    simp only [zd]
    rw [ite'_t (by simpa using hn),ite'_t (b:=((I1 x.2).length:Int) != n) (by simpa using hn)]
    exact ⟨rfl,rfl⟩
  ·refine ⟨false,fun h=>(by cases h),fun k hk hx=>?_⟩
   rw [F179.run,F155.run,(e k hk).1,(e k hk).2,bB,bB,ite'_nt,ite'_nt,c128,c157,bB,bB,zac (by omega) (by omega),decide_eq_false hr]
   exact ⟨rfl,rfl⟩
end Go.Proofs.YtiacahdabflcdaaGreat.Q
namespace Go.Proofs.YtiacahdabflcdaaGreat.Q
open Go Ovi
variable {k:Nat}
def z8 (xs:List Atom) (z:Int):Prop:=0≤z∧∃ x∈xs,z∈x.2
def zD (xs:List Atom):Nat:=(xs.map fun x=>x.2.length).sum
theorem zbu {xs:List Atom} {i:Nat} {x:Atom} (h:xs[i]? = some x):zD (xs.take i)+x.2.length=zD (xs.take (i+1)):=by
 obtain ⟨hi,e⟩:=List.getElem?_eq_some_iff.1 h
 unfold zD
 rw [List.take_succ_eq_append_getElem hi,e]
 simp
theorem zbv (xs:List Atom) (i:Nat):zD (xs.take i)≤zD xs:=by
 have:zD xs=zD (xs.take i)+zD (xs.drop i):=by
  unfold zD
  rw [← List.sum_append,← List.map_append,List.take_append_drop]
 omega
theorem zc7 {xs:List Atom} {i:Nat} {x:Atom} (h:xs[i]? = some x) (z:Int):z8 (xs.take (i+1)) z↔z8 (xs.take i) z∨(0≤z∧z∈x.2):=by
 obtain ⟨hi,e⟩:=List.getElem?_eq_some_iff.1 h
 unfold z8
 rw [List.take_succ_eq_append_getElem hi,e]
 simp only [List.mem_append,List.mem_singleton]
 constructor
 ·rintro ⟨h0,y,hy | rfl,hz⟩
  ·exact .inl ⟨h0,y,hy,hz⟩
  ·exact .inr ⟨h0,hz⟩
 ·rintro (⟨h0,y,hy,hz⟩ | ⟨h0,hz⟩)
  ·exact ⟨h0,y,.inl hy,hz⟩
  ·exact ⟨h0,x,.inr rfl,hz⟩
theorem c137 (xs:List Atom) (hk:zD xs+xs.length < k) (hs:zD xs+xs.length≤1048576):∃ vs,C (k+1) 137 [.d (.list 2 (A1 xs))]=some [(false,[.row 3 1 (I1 vs)])]∧(∀ z,z∈vs↔z8 xs z)∧vs.length≤zD xs:=by
 rw [F137.run,zq]
 have hmax:(1048576:Nat)≤maxLen:=by decide
 have inner:∀ (i:Nat) (x:Atom),xs[i]? = some x→∀ (m j n k3:Nat) (acc:List Int),j+m=x.2.length→m < n→acc.length≤zD (xs.take i)+j→(∀ z,z∈acc↔z8 (xs.take i) z∨(0≤z∧z∈x.2.take j)) →
   ∃ acc',F137.L6 k (C k) k3 n (A1 xs) (xs.length:Int) (i:Int) (I1 x.2) (x.2.length:Int) (j:Int) (I1 acc)=F137.L3 k (C k) k3 (A1 xs) (xs.length:Int) ((i+1:Nat):Int) (I1 acc')∧acc'.length≤zD (xs.take (i+1))∧∀ z,z∈acc'↔z8 (xs.take (i+1)) z:=by
  intro i x hx m
  have hi:=(List.getElem?_eq_some_iff.1 hx).1
  have hta:=zbu hx
  have htl:=zbv xs (i+1)
  induction m with
  | zero =>
   intro j n k3 acc hm hn ha hmem
   obtain ⟨n,rfl⟩:∃ j,n=j+1:=⟨n - 1,by omega⟩
   obtain rfl:j=x.2.length:=by omega
   refine ⟨acc,?_,by omega,fun z=>?_⟩
   ·rw [F137.L6.succ,ite'_f (lt_f (by omega)),zE hi (m:=xs.length) (by omega)]
   ·rw [hmem z,zc7 hx,List.take_length]
  | succ m ih =>
   intro j n k3 acc hm hn ha hmem
   obtain ⟨n,rfl⟩:∃ j,n=j+1:=⟨n - 1,by omega⟩
   have hj:j < x.2.length:=by omega
   have hz:=List.getElem?_eq_getElem hj
   rw [F137.L6.succ,ite'_t (lt_t hj),zn,ite'_t (zo hj)]
   simp only [Int.toNat_natCast,zF (I1_get' hz),List.getElem?_cons_zero,Option.bind_some,zz,zd]
   rw [zE hj (m:=x.2.length) (by omega)]
   have htk:∀ z,z∈x.2.take (j+1)↔z∈x.2.take j∨z=x.2[j]:=by
    intro z
    rw [List.take_succ_eq_append_getElem hj]
    simp only [List.mem_append,List.mem_singleton]
   by_cases h0:0≤x.2[j]
   ·rw [ite'_t (by simpa using h0),ite'_t (zY (by simp [zn];omega))]
    have e:I1 acc++[[.int .i64 x.2[j]]]=I1 (acc++[x.2[j]]):=by simp [I1]
    rw [e]
    refine ih (j+1) n k3 _ (by omega) (by omega) (by simp;omega) (fun z=>?_)
    rw [List.mem_append,List.mem_singleton,hmem z,htk z]
    constructor
    ·rintro ((h | h) | h)
     ·exact .inl h
     ·exact .inr ⟨h.1,.inl h.2⟩
     ·exact .inr ⟨h▸h0,.inr h⟩
    ·rintro (h | ⟨h1,h | h⟩)
     ·exact .inl (.inl h)
     ·exact .inl (.inr ⟨h1,h⟩)
     ·exact .inr h
   ·rw [ite'_f (by simpa using h0)]
    refine ih (j+1) n k3 _ (by omega) (by omega) (by omega) (fun z=>?_)
    rw [hmem z,htk z]
    constructor
    ·rintro (h | h)
     ·exact .inl h
     ·exact .inr ⟨h.1,.inl h.2⟩
    ·rintro (h | ⟨h1,h | h⟩)
     ·exact .inl h
     ·exact .inr ⟨h1,h⟩
     ·exact absurd (h▸h1) h0
 have outer:∀ (m i n:Nat) (acc:List Int),i+m=xs.length→m < n→acc.length≤zD (xs.take i)→(∀ z,z∈acc↔z8 (xs.take i) z) →
   ∃ vs,F137.L3 k (C k) n (A1 xs) (xs.length:Int) (i:Int) (I1 acc)=some [(false,[.row 3 1 (I1 vs)])]∧(∀ z,z∈vs↔z8 xs z)∧vs.length≤zD xs:=by
  intro m
  induction m with
  | zero =>
   intro i n acc hm hn ha hmem
   obtain ⟨n,rfl⟩:∃ j,n=j+1:=⟨n - 1,by omega⟩
   obtain rfl:i=xs.length:=by omega
   rw [List.take_length] at ha hmem
   obtain ⟨k,rfl⟩:∃ j,k=j+1:=⟨k - 1,by omega⟩
   have e1:C (k+1) 176 [.var 0 0,.d (.int .i64 3),.d (.list 1 (I1 acc))]=some [(false,[.row 3 1 (I1 (zL acc))])]:=by
    show zcx _=_
    unfold zcx zbJ
    simp only [zbz]
    rw [show Nat.ble acc.length 1099511627776=true from Nat.ble_eq_true_of_le (by omega)]
    rfl
   have hsl:(zL acc).length=acc.length:=by simp [zL]
   have e2:C (k+1) 177 [.var 0 0,.d (.int .i64 3),.d (.list 1 (I1 (zL acc)))]=some [(false,[.row 3 1 (I1 (Lib.compact (zL acc)))]),(true,[])]:=by
    show zbf _=_
    unfold zbf zbJ
    simp only [zbz]
    rw [show Nat.ble (zL acc).length 1099511627776=true from Nat.ble_eq_true_of_le (by omega)]
    rfl
   refine ⟨Lib.compact (zL acc),?_,fun z=>?_,?_⟩
   ·rw [F137.L3.succ,ite'_f (lt_f (by omega)),e1]
    simp only [zl,zy,zh]
    rw [e2]
    rfl
   ·rw [zcI,zcp,hmem z]
   ·have:=zcG (zL acc)
    omega
  | succ m ih =>
   intro i n acc hm hn ha hmem
   obtain ⟨n,rfl⟩:∃ j,n=j+1:=⟨n - 1,by omega⟩
   have hi:i < xs.length:=by omega
   have hx:=List.getElem?_eq_getElem hi
   rw [F137.L3.succ,zq,ite'_t (lt_t hi),ite'_t (zo hi)]
   simp only [Int.toNat_natCast,zF (zaG hx),zab (zaG hx),List.getElem?_cons_zero,List.getElem?_cons_succ,Option.bind_some,zz,zN,zd,zh]
   have hta:=zbu hx
   have htl:=zbv xs (i+1)
   rw [zn]
   obtain ⟨acc',e,h1,h2⟩:=inner i _ hx (xs[i]).2.length 0 k n acc (by omega) (by omega) (by omega) (fun z=>by simp [hmem z])
   rw [show ((0:Nat):Int)=0 from rfl] at e
   rw [e]
   exact ih (i+1) n acc' (by omega) (by omega) h1 h2
 have:=outer xs.length 0 k [] (by omega) (by omega) (by simp) (fun z=>by simp [z8])
 exact this
theorem c160 (zs:List Int) (v:Int) (hk:zs.length < k) (hz:zs.length≤1048576):∃ r ws,C (k+1) 160 [.d (.list 1 (I1 zs)),.d (.int .i64 v)]=some r∧resL 1 1 false 1 r 0 0=some (I1 ws)∧(∀ z,z∈ws↔z∈zs∨z=v)∧ws.length≤zs.length+1:=by
 rw [F160.run]
 have hmax:(1048576:Nat)≤maxLen:=by decide
 have ins:∀ i:Nat,i≤zs.length→∃ r ws,(ite' (inS (i:Int) ((I1 zs).length:Int) (I1 zs).length) (ite' (fits (([[D.int .i64 v]]:Ovi.Rows).length+((I1 zs).drop (i:Int).toNat).length)) (ite' (inS (0:Int) (i:Int) (I1 zs).length) (ite' (fits ((I1 zs).take (i:Int).toNat).length) (ite' (fits (((I1 zs).take (i:Int).toNat).length+List.length ([[D.int .i64 v]]++(I1 zs).drop (i:Int).toNat))) (some ([(false,[RL.row 3 1 ((I1 zs).take (i:Int).toNat++([[D.int .i64 v]]++(I1 zs).drop (i:Int).toNat))])]:Res)) none) none) none) none) none)=some r∧resL 1 1 false 1 r 0 0=some (I1 ws)∧(∀ z,z∈ws↔z∈zs∨z=v)∧ws.length≤zs.length+1:=by
  intro i hi
  rw [zn,ite'_t (by simp [inS];omega),ite'_t (zY (by simp [zn];omega)),ite'_t (by simp [inS];omega),ite'_t (zY (by simp [zn];omega)),ite'_t (zY (by simp [zn];omega))]
  refine ⟨_,zs.take i++v::zs.drop i,rfl,?_,fun z=>?_,by simp;omega⟩
  ·rw [zl7]
   simp [I1]
  ·have:z∈zs↔z∈zs.take i∨z∈zs.drop i:=by rw [← List.mem_append,List.take_append_drop]
   rw [this,List.mem_append,List.mem_cons]
   constructor
   ·rintro (h | h | h)
    ·exact .inl (.inl h)
    ·exact .inr h
    ·exact .inl (.inr h)
   ·rintro ((h | h) | h)
    ·exact .inl h
    ·exact .inr (.inr h)
    ·exact .inr (.inl h)
 have main:∀ (m i n:Nat),i+m=zs.length→m < n→∃ r ws,F160.L2 k (C k) n (I1 zs) v (i:Int)=some r∧resL 1 1 false 1 r 0 0=some (I1 ws)∧(∀ z,z∈ws↔z∈zs∨z=v)∧ws.length≤zs.length+1:=by
  intro m
  induction m with
  | zero =>
   intro i n hm hn
   obtain ⟨n,rfl⟩:∃ j,n=j+1:=⟨n - 1,by omega⟩
   obtain ⟨r,ws,h1,h2⟩:=ins i (by omega)
   refine ⟨r,ws,?_,h2⟩
   rw [F160.L2.succ]
   rw [ite'_f (b:=decide ((i:Int) < ((I1 zs).length:Int))) (by rw [zn];exact lt_f (by omega))]
   rw [ite'_f (b:=decide ((i:Int) < ((I1 zs).length:Int))) (by rw [zn];exact lt_f (by omega))]
   exact h1
  | succ m ih =>
   intro i n hm hn
   obtain ⟨n,rfl⟩:∃ j,n=j+1:=⟨n - 1,by omega⟩
   have hi:i < zs.length:=by omega
   have hx:=List.getElem?_eq_getElem hi
   obtain ⟨r,ws,h1,h2⟩:=ins i (by omega)
   rw [F160.L2.succ]
   rw [ite'_t (b:=decide ((i:Int) < ((I1 zs).length:Int))) (by rw [zn];exact lt_t hi)]
   rw [ite'_t (b:=inR (i:Int) (I1 zs).length) (by rw [zn];exact zo hi)]
   rw [show zm .i64 (I1 zs) (i:Int).toNat 0=some zs[i] by rw [Int.toNat_natCast,zF (I1_get' hx)];rfl]
   simp only [zd]
   by_cases hlt:zs[i] < v
   ·rw [ite'_t (by simpa using hlt),zE hi (m:=zs.length) (by omega)]
    exact ih (i+1) n (by omega) (by omega)
   ·rw [ite'_f (b:=decide (zs[i] < v)) (by simpa using hlt)]
    rw [ite'_t (b:=decide ((i:Int) < ((I1 zs).length:Int))) (by rw [zn];exact lt_t hi)]
    rw [ite'_t (b:=inR (i:Int) (I1 zs).length) (by rw [zn];exact zo hi)]
    by_cases heq:zs[i]=v
    ·rw [ite'_t (b:=zs[i]==v) (by simpa using heq)]
     refine ⟨_,zs,rfl,zcu _ _,fun z=>⟨.inl,?_⟩,by omega⟩
     rintro (h | h)
     ·exact h
     ·rw [h,← heq];exact List.getElem_mem hi
    ·rw [ite'_f (b:=zs[i]==v) (by simpa using heq)]
     exact ⟨r,ws,h1,h2⟩
 have:=main zs.length 0 k (by omega) (by omega)
 exact this
theorem c154 (xs:List Atom) (hk:zD xs+xs.length < k) (hs:zD xs+xs.length≤1048576):∃ vs,C (k+2) 154 [.d (.list 2 (A1 xs))]=some [(false,[.d (.list 1 (I1 vs))])]∧(∀ z,z∈vs↔z8 xs z)∧vs.length≤zD xs:=by
 rw [F154.run]
 have hmax:(1048576:Nat)≤maxLen:=by decide
 have inner:∀ (i:Nat) (x:Atom),xs[i]? = some x→∀ (m j n k3:Nat) (acc:List Int),j+m=x.2.length→m < n→acc.length≤zD (xs.take i)+j→(∀ z,z∈acc↔z8 (xs.take i) z∨(0≤z∧z∈x.2.take j)) →
   ∃ acc',F154.L6 (k+1) (C (k+1)) k3 n (A1 xs) (I1 acc) (i:Int) (j:Int)=F154.L3 (k+1) (C (k+1)) k3 (A1 xs) (I1 acc') ((i+1:Nat):Int)∧acc'.length≤zD (xs.take (i+1))∧∀ z,z∈acc'↔z8 (xs.take (i+1)) z:=by
  intro i x hx m
  have hi:=(List.getElem?_eq_some_iff.1 hx).1
  have hta:=zbu hx
  have htl:=zbv xs (i+1)
  have hcell:zw 1 (A1 xs) ((i:Int)).toNat 1=some (I1 x.2):=by rw [Int.toNat_natCast,zab (zaG hx)];rfl
  have hin:inR (i:Int) (A1 xs).length=true:=by rw [zq];exact zo hi
  induction m with
  | zero =>
   intro j n k3 acc hm hn ha hmem
   obtain ⟨n,rfl⟩:∃ j,n=j+1:=⟨n - 1,by omega⟩
   obtain rfl:j=x.2.length:=by omega
   refine ⟨acc,?_,by omega,fun z=>?_⟩
   ·rw [F154.L6.succ,ite'_t hin,hcell,zh,zn,ite'_f (lt_f (by omega)),zE hi (m:=xs.length) (by omega)]
   ·rw [hmem z,zc7 hx,List.take_length]
  | succ m ih =>
   intro j n k3 acc hm hn ha hmem
   obtain ⟨n,rfl⟩:∃ j,n=j+1:=⟨n - 1,by omega⟩
   have hj:j < x.2.length:=by omega
   have hz:=List.getElem?_eq_getElem hj
   have hcz:zm .i64 (I1 x.2) ((j:Int)).toNat 0=some x.2[j]:=by rw [Int.toNat_natCast,zF (I1_get' hz)];rfl
   have hinj:inR (j:Int) (I1 x.2).length=true:=by rw [zn];exact zo hj
   rw [F154.L6.succ,ite'_t hin,hcell,zh,ite'_t (b:=decide ((j:Int) < ((I1 x.2).length:Int))) (by rw [zn];exact lt_t hj),ite'_t hin]
   simp only [zh]
   rw [ite'_t hinj,hcz]
   simp only [zd]
   rw [zE hj (m:=x.2.length) (by omega)]
   have htk:∀ z,z∈x.2.take (j+1)↔z∈x.2.take j∨z=x.2[j]:=by
    intro z
    rw [List.take_succ_eq_append_getElem hj]
    simp only [List.mem_append,List.mem_singleton]
   by_cases h0:0≤x.2[j]
   ·obtain ⟨r,ws,e1,e2,e3,e4⟩:=c160 (k:=k) acc x.2[j] (by omega) (by omega)
    rw [ite'_t (by simpa using h0),ite'_t hin,ite'_t hinj,e1]
    simp only [zl]
    rw [e2,zh]
    refine ih (j+1) n k3 _ (by omega) (by omega) (by omega) (fun z=>?_)
    rw [e3 z,hmem z,htk z]
    constructor
    ·rintro ((h | h) | h)
     ·exact .inl h
     ·exact .inr ⟨h.1,.inl h.2⟩
     ·exact .inr ⟨h▸h0,.inr h⟩
    ·rintro (h | ⟨h1,h | h⟩)
     ·exact .inl (.inl h)
     ·exact .inl (.inr ⟨h1,h⟩)
     ·exact .inr h
   ·rw [ite'_f (by simpa using h0)]
    refine ih (j+1) n k3 _ (by omega) (by omega) (by omega) (fun z=>?_)
    rw [hmem z,htk z]
    constructor
    ·rintro (h | h)
     ·exact .inl h
     ·exact .inr ⟨h.1,.inl h.2⟩
    ·rintro (h | ⟨h1,h | h⟩)
     ·exact .inl h
     ·exact .inr ⟨h1,h⟩
     ·exact absurd (h▸h1) h0
 have outer:∀ (m i n:Nat) (acc:List Int),i+m=xs.length→m < n→acc.length≤zD (xs.take i)→(∀ z,z∈acc↔z8 (xs.take i) z) →
   ∃ vs,F154.L3 (k+1) (C (k+1)) n (A1 xs) (I1 acc) (i:Int)=some [(false,[.d (.list 1 (I1 vs))])]∧(∀ z,z∈vs↔z8 xs z)∧vs.length≤zD xs:=by
  intro m
  induction m with
  | zero =>
   intro i n acc hm hn ha hmem
   obtain ⟨n,rfl⟩:∃ j,n=j+1:=⟨n - 1,by omega⟩
   obtain rfl:i=xs.length:=by omega
   rw [List.take_length] at ha hmem
   exact ⟨acc,by rw [F154.L3.succ,zq,ite'_f (lt_f (by omega))],hmem,ha⟩
  | succ m ih =>
   intro i n acc hm hn ha hmem
   obtain ⟨n,rfl⟩:∃ j,n=j+1:=⟨n - 1,by omega⟩
   have hi:i < xs.length:=by omega
   have hx:=List.getElem?_eq_getElem hi
   have hta:=zbu hx
   have htl:=zbv xs (i+1)
   rw [F154.L3.succ,zq,ite'_t (lt_t hi)]
   obtain ⟨acc',e,h1,h2⟩:=inner i _ hx (xs[i]).2.length 0 (k+1) n acc (by omega) (by omega) (by omega) (fun z=>by simp [hmem z])
   rw [show ((0:Nat):Int)=0 from rfl] at e
   rw [e]
   exact ih (i+1) n acc' (by omega) (by omega) h1 h2
 have:=outer xs.length 0 (k+1) [] (by omega) (by omega) (by simp) (fun z=>by simp [z8])
 exact this
end Go.Proofs.YtiacahdabflcdaaGreat.Q
namespace Go.Proofs.YtiacahdabflcdaaGreat.Q
open Go Ovi
variable {k:Nat}
noncomputable def vB (xs:List Atom) (z:Int):Bool:=@decide (z8 xs z) (Classical.propDecidable _)
theorem zdJ {xs:List Atom} {vs:List Int} (h:∀ z,z∈vs↔z8 xs z) (z:Int):decide (z∈vs)=vB xs z:=by
 unfold vB
 rw [Bool.eq_iff_iff]
 simp [h z]
def zdK (a:Ovi.Rows) (xs:List Atom) (valid:Atom→Bool):Prop:=∀ x∈xs,∀ k,a.length < k→x.2.length < k→C (k+5) 179 [.d (.list 3 a),.agg [.d (.int .i64 x.1),.d (.list 1 (I1 x.2))]]=bo (valid x)∧C (k+5) 155 [.d (.list 3 a),.agg [.d (.int .i64 x.1),.d (.list 1 (I1 x.2))]]=bo (valid x)
theorem zkm {a:Ovi.Rows} (ha:Fit Rl (.list 3 a)) (xs:List Atom) (hx:∀ x∈xs,x.2.length≤maxLen):∃ valid:Atom→Bool,(∀ x∈xs,valid x=true→(0≤x.1∧x.1 < (a.length:Int))∧(x.2.length:Int)=ar a x.1∧∀ t∈x.2, -10≤t∧t≤4)∧zdK a xs valid:=by
 have:∀ x:Atom,∃ b,x∈xs→(b=true→(0≤x.1∧x.1 < (a.length:Int))∧(x.2.length:Int)=ar a x.1∧∀ t∈x.2, -10≤t∧t≤4)∧∀ k,a.length < k→x.2.length < k→C (k+5) 179 [.d (.list 3 a),.agg [.d (.int .i64 x.1),.d (.list 1 (I1 x.2))]]=bo b∧C (k+5) 155 [.d (.list 3 a),.agg [.d (.int .i64 x.1),.d (.list 1 (I1 x.2))]]=bo b:=by
  intro x
  by_cases h:x∈xs
  ·obtain ⟨b,hb⟩:=atoms ha x (hx x h)
   exact ⟨b,fun _=>hb⟩
  ·exact ⟨false,fun h'=>absurd h' h⟩
 obtain ⟨valid,hv⟩:=Classical.axiomOfChoice this
 exact ⟨valid,fun x hx=>(hv x hx).1,fun x hx=>(hv x hx).2⟩
theorem zah {xs:List Atom} {x:Atom} (h:x∈xs):x.2.length≤zD xs:=by
 induction xs with
 | nil=>cases h
 | cons y ys ih =>
  have e:zD (y::ys)=y.2.length+zD ys:=by simp [zD]
  rw [e]
  rcases List.mem_cons.1 h with rfl | h
  ·omega
  ·have:=ih h;omega
theorem zcz {α:Type} (l:List α) (p:α→Bool):(!(l.any fun x=>!p x))=l.all p:=by
 induction l with
 | nil=>rfl
 | cons x l ih=>rw [List.any_cons,List.all_cons,← ih];cases p x<;>simp
def At:Ty:=.list [.int .i64,.list [.int .i64]]
theorem zbH {xs:List Atom}:szD (.list 2 (A1 xs))=xs.length+zD xs:=by
 simp only [szD,zq,zoZ]
 rfl
theorem znN {zs:List Int}:szD (.list 1 (I1 zs))=zs.length:=by simp only [szD,zn,zmi,Nat.add_zero]
theorem zgs {a:Ovi.Rows}:a.length≤szD (.list 3 a):=by simp only [szD];omega
end Go.Proofs.YtiacahdabflcdaaGreat.Q
namespace Go.Proofs.YtiacahdabflcdaaGreat.Q
open Go Ovi
variable {k:Nat}
def isN (v:Int):Bool:=decide (-40≤v∧v ≤ -1)
def okV (v:Int):Bool:=decide (-40≤v∧v≤9)
def nn (v:Int):Option Res:=some [(false,[.d (.int .i64 (if isN v then -1 - v else 0))]),(false,[.d (.bool (isN v))])]
theorem nnB (v:Int) (f:Int→Bool→Option Res):(zb (nn v) fun r=>zg (resI .i64 2 false 1 r 0 0) fun n=>zj (resB 2 false 1 r 1 0) fun b=>f n b)=f (if isN v then -1 - v else 0) (isN v):=rfl
theorem zgb {v:Int} (h:isN v=true) : -40≤v∧v ≤ -1:=of_decide_eq_true h
theorem zji {v:Int} (h:isN v=false):¬ (-40≤v∧v ≤ -1):=of_decide_eq_false h
theorem zne {v:Int} (h:inI v):IntKind.i64.wrap (-1 - v) = -1 - v:=by unfold inI at h;exact zac (by omega) (by omega)
theorem c119 {v:Int} (h:inI v):C (k+2) 119 [.d (.int .i64 v)]=nn v:=by
 rw [F119.run]
 by_cases h0:v ≥ 0
 ·rw [ite'_t (by simpa using h0)]
  have:isN v=false:=decide_eq_false (by omega)
  simp [nn,this]
 ·rw [ite'_f (by simpa using h0),zne h,c157,bB]
  by_cases h1:isN v=true
  ·have:=zgb h1
   rw [decide_eq_true (by omega),ite'_nt]
   simp [nn,h1]
  ·have h1:isN v=false:=by simpa using h1
   have:=zji h1
   rw [decide_eq_false (by omega),ite'_nf]
   simp [nn,h1]
theorem c146 {v:Int} (h:inI v):C (k+2) 146 [.d (.int .i64 v)]=nn v:=by
 rw [F146.run,zne h,c128,bB]
 by_cases h1:isN v=true
 ·have:=zgb h1
  rw [decide_eq_true (by omega),ite'_nt]
  simp [nn,h1]
 ·have h1:isN v=false:=by simpa using h1
  have:=zji h1
  rw [decide_eq_false (by omega),ite'_nf]
  simp [nn,h1]
theorem c159 {v:Int} (h:inI v):C (k+3) 159 [.d (.int .i64 v)]=bo (okV v):=by
 rw [F159.run,c119 h,nnB]
 by_cases h1:isN v=true
 ·have:=zgb h1
  rw [ite'_t h1]
  exact zaB (b:=true) (by rw [okV,decide_eq_true (by omega)])
 ·have h1:isN v=false:=by simpa using h1
  have:=zji h1
  rw [ite'_f h1,c157,bB]
  refine zaB ?_
  unfold okV
  rw [Bool.eq_iff_iff]
  simp only [decide_eq_true_eq]
  omega
theorem c131 (v:Int):C (k+2) 131 [.d (.int .i64 v)]=bo (okV v):=by
 rw [F131.run,c128,bB];rfl
def zal (zs:List Int):List Int:=Lib.compact (zL ((zs.filter isN).map fun v => -1 - v))
theorem zj3 (zs:List Int):SS (zal zs):=ze3 _
theorem zcj (zs:List Int) (n:Int):n∈zal zs↔∃ v∈zs,isN v=true∧n = -1 - v:=by
 unfold zal
 rw [zcI,zcp]
 simp only [List.mem_map,List.mem_filter]
 constructor
 ·rintro ⟨v,⟨h1,h2⟩,rfl⟩;exact ⟨v,h1,h2,rfl⟩
 ·rintro ⟨v,h1,h2,rfl⟩;exact ⟨v,⟨h1,h2⟩,rfl⟩
theorem ziQ (zs:List Int):(zal zs).length≤zs.length:=by
 unfold zal
 have h1:=zcG (zL ((zs.filter isN).map fun v => -1 - v))
 have h2:(zL ((zs.filter isN).map fun v => -1 - v)).length=(zs.filter isN).length:=by simp [zL]
 have h3:=List.length_filter_le isN zs
 omega
theorem c134 (zs:List Int) (hI:∀ z∈zs,inI z) (hk:zs.length < k) (hz:zs.length≤1048576):C (k+3) 134 [.d (.list 1 (I1 zs))]=some [(false,[.row 3 1 (I1 (zal zs))])]:=by
 rw [F134.run,zn]
 have hmax:(1048576:Nat)≤maxLen:=by decide
 have main:∀ (m i n:Nat),i+m=zs.length→m < n→F134.L3 (k+2) (C (k+2)) n (I1 zs) (zs.length:Int) (i:Int) (I1 (((zs.take i).filter isN).map fun v => -1 - v))=some [(false,[.row 3 1 (I1 (zal zs))])]:=by
  intro m
  induction m with
  | zero =>
   intro i n hm hn
   obtain ⟨n,rfl⟩:∃ j,n=j+1:=⟨n - 1,by omega⟩
   obtain rfl:i=zs.length:=by omega
   rw [List.take_length]
   have hf:=List.length_filter_le isN zs
   generalize hacc:(zs.filter isN).map (fun v => -1 - v)=acc
   have hal:acc.length≤zs.length:=by rw [← hacc];simpa using hf
   have e1:C (k+2) 176 [.var 0 0,.d (.int .i64 3),.d (.list 1 (I1 acc))]=some [(false,[.row 3 1 (I1 (zL acc))])]:=by
    show zcx _=_
    unfold zcx zbJ
    simp only [zbz]
    rw [show Nat.ble acc.length 1099511627776=true from Nat.ble_eq_true_of_le (by omega)]
    rfl
   have hsl:(zL acc).length=acc.length:=by simp [zL]
   have e2:C (k+2) 177 [.var 0 0,.d (.int .i64 3),.d (.list 1 (I1 (zL acc)))]=some [(false,[.row 3 1 (I1 (Lib.compact (zL acc)))]),(true,[])]:=by
    show zbf _=_
    unfold zbf zbJ
    simp only [zbz]
    rw [show Nat.ble (zL acc).length 1099511627776=true from Nat.ble_eq_true_of_le (by omega)]
    rfl
   rw [F134.L3.succ,ite'_f (lt_f (by omega)),e1]
   simp only [zl,zy,zh]
   rw [e2]
   unfold zal
   rw [hacc]
   rfl
  | succ m ih =>
   intro i n hm hn
   obtain ⟨n,rfl⟩:∃ j,n=j+1:=⟨n - 1,by omega⟩
   have hi:i < zs.length:=by omega
   have hx:=List.getElem?_eq_getElem hi
   have hft:=List.length_filter_le isN (zs.take i)
   rw [F134.L3.succ,zn,ite'_t (lt_t hi),ite'_t (zo hi)]
   simp only [Int.toNat_natCast,zF (I1_get' hx),List.getElem?_cons_zero,Option.bind_some,zz,zd]
   rw [c146 (hI _ (List.getElem_mem hi)),nnB,zE hi (m:=zs.length) (by omega)]
   have hstep:(zs.take (i+1)).filter isN=(zs.take i).filter isN++(if isN zs[i] then [zs[i]] else []):=by
    rw [List.take_succ_eq_append_getElem hi,List.filter_append]
    cases h:isN zs[i]<;>simp [h]
   have:=ih (i+1) n (by omega) (by omega)
   rw [hstep] at this
   cases h:isN zs[i] with
   | true =>
    rw [ite'_t rfl,ite'_t (zY (by simp [zn] at hft ⊢;omega))]
    rw [h] at this
    simp only [if_true,List.map_append,List.map_cons,List.map_nil] at this ⊢
    rw [← this]
    simp [I1]
   | false =>
    rw [ite'_f rfl]
    rw [h] at this
    simpa using this
 exact main zs.length 0 (k+2) (by omega) (by omega)
theorem zk3 (zs:List Int) (v:Int) (hS:SS zs) (hk:zs.length < k) (hz:zs.length≤1048576):∃ r ws,C (k+1) 160 [.d (.list 1 (I1 zs)),.d (.int .i64 v)]=some r∧resL 1 1 false 1 r 0 0=some (I1 ws)∧(∀ z,z∈ws↔z∈zs∨z=v)∧ws.length≤zs.length+1∧SS ws:=by
 rw [F160.run]
 have hmax:(1048576:Nat)≤maxLen:=by decide
 have ins:∀ i:Nat,i≤zs.length→(∀ (j:Nat) y,j < i→zs[j]? = some y→y < v)→(∀ y,zs[i]? = some y→v < y)→∃ r ws,(ite' (inS (i:Int) ((I1 zs).length:Int) (I1 zs).length) (ite' (fits (([[D.int .i64 v]]:Ovi.Rows).length+((I1 zs).drop (i:Int).toNat).length)) (ite' (inS (0:Int) (i:Int) (I1 zs).length) (ite' (fits ((I1 zs).take (i:Int).toNat).length) (ite' (fits (((I1 zs).take (i:Int).toNat).length+List.length ([[D.int .i64 v]]++(I1 zs).drop (i:Int).toNat))) (some ([(false,[RL.row 3 1 ((I1 zs).take (i:Int).toNat++([[D.int .i64 v]]++(I1 zs).drop (i:Int).toNat))])]:Res)) none) none) none) none) none)=some r∧resL 1 1 false 1 r 0 0=some (I1 ws)∧(∀ z,z∈ws↔z∈zs∨z=v)∧ws.length≤zs.length+1∧SS ws:=by
  intro i hi hlt hgt
  rw [zn,ite'_t (by simp [inS];omega),ite'_t (zY (by simp [zn];omega)),ite'_t (by simp [inS];omega),ite'_t (zY (by simp [zn];omega)),ite'_t (zY (by simp [zn];omega))]
  refine ⟨_,zs.take i++v::zs.drop i,rfl,?_,fun z=>?_,by simp;omega,?_⟩
  ·rw [zl7]
   simp [I1]
  ·have:z∈zs↔z∈zs.take i∨z∈zs.drop i:=by rw [← List.mem_append,List.take_append_drop]
   rw [this,List.mem_append,List.mem_cons]
   constructor
   ·rintro (h | h | h)
    ·exact .inl (.inl h)
    ·exact .inr h
    ·exact .inl (.inr h)
   ·rintro ((h | h) | h)
    ·exact .inl h
    ·exact .inr (.inr h)
    ·exact .inr (.inl h)
  ·have hd:∀ y∈zs.drop i,v < y:=by
    intro y hy
    obtain ⟨j,hj⟩:=List.mem_iff_getElem?.1 hy
    rw [List.getElem?_drop] at hj
    have hil:i < zs.length:=by have:=(List.getElem?_eq_some_iff.1 hj).1;omega
    have h0:=hgt zs[i] (List.getElem?_eq_getElem hil)
    rcases Nat.eq_zero_or_pos j with rfl | hjp
    ·rw [Nat.add_zero,List.getElem?_eq_getElem hil] at hj;cases hj;exact h0
    ·obtain ⟨hjl,e⟩:=List.getElem?_eq_some_iff.1 hj
     have:=List.pairwise_iff_getElem.1 hS i (i+j) hil hjl (by omega)
     omega
   have ht:∀ y∈zs.take i,y < v:=by
    intro y hy
    obtain ⟨j,hj⟩:=List.mem_iff_getElem?.1 hy
    obtain ⟨hjl,e⟩:=List.getElem?_eq_some_iff.1 hj
    simp only [List.length_take] at hjl
    rw [List.getElem?_take_of_lt (by omega)] at hj
    exact hlt j y (by omega) hj
   refine List.pairwise_append.2 ⟨hS.sublist (List.take_sublist _ _),List.pairwise_cons.2 ⟨hd,hS.sublist (List.drop_sublist _ _)⟩,fun x hx y hy=>?_⟩
   have:=ht x hx
   rcases List.mem_cons.1 hy with rfl | hy
   ·exact this
   ·have:=hd y hy;omega
 have main:∀ (m i n:Nat),i+m=zs.length→m < n→(∀ (j:Nat) y,j < i→zs[j]? = some y→y < v)→∃ r ws,F160.L2 k (C k) n (I1 zs) v (i:Int)=some r∧resL 1 1 false 1 r 0 0=some (I1 ws)∧(∀ z,z∈ws↔z∈zs∨z=v)∧ws.length≤zs.length+1∧SS ws:=by
  intro m
  induction m with
  | zero =>
   intro i n hm hn hlt
   obtain ⟨n,rfl⟩:∃ j,n=j+1:=⟨n - 1,by omega⟩
   obtain ⟨r,ws,h1,h2⟩:=ins i (by omega) hlt (fun y hy=>by have:=(List.getElem?_eq_some_iff.1 hy).1;omega)
   refine ⟨r,ws,?_,h2⟩
   rw [F160.L2.succ]
   rw [ite'_f (b:=decide ((i:Int) < ((I1 zs).length:Int))) (by rw [zn];exact lt_f (by omega))]
   rw [ite'_f (b:=decide ((i:Int) < ((I1 zs).length:Int))) (by rw [zn];exact lt_f (by omega))]
   exact h1
  | succ m ih =>
   intro i n hm hn hlt0
   obtain ⟨n,rfl⟩:∃ j,n=j+1:=⟨n - 1,by omega⟩
   have hi:i < zs.length:=by omega
   have hx:=List.getElem?_eq_getElem hi
   rw [F160.L2.succ]
   rw [ite'_t (b:=decide ((i:Int) < ((I1 zs).length:Int))) (by rw [zn];exact lt_t hi)]
   rw [ite'_t (b:=inR (i:Int) (I1 zs).length) (by rw [zn];exact zo hi)]
   rw [show zm .i64 (I1 zs) (i:Int).toNat 0=some zs[i] by rw [Int.toNat_natCast,zF (I1_get' hx)];rfl]
   simp only [zd]
   by_cases hlt:zs[i] < v
   ·rw [ite'_t (by simpa using hlt),zE hi (m:=zs.length) (by omega)]
    refine ih (i+1) n (by omega) (by omega) (fun j y hj hy=>?_)
    by_cases hji:j=i
    ·subst hji;rw [hx] at hy;cases hy;exact hlt
    ·exact hlt0 j y (by omega) hy
   ·rw [ite'_f (b:=decide (zs[i] < v)) (by simpa using hlt)]
    rw [ite'_t (b:=decide ((i:Int) < ((I1 zs).length:Int))) (by rw [zn];exact lt_t hi)]
    rw [ite'_t (b:=inR (i:Int) (I1 zs).length) (by rw [zn];exact zo hi)]
    by_cases heq:zs[i]=v
    ·rw [ite'_t (b:=zs[i]==v) (by simpa using heq)]
     refine ⟨_,zs,rfl,zcu _ _,fun z=>⟨.inl,?_⟩,by omega,hS⟩
     rintro (h | h)
     ·exact h
     ·rw [h,← heq];exact List.getElem_mem hi
    ·rw [ite'_f (b:=zs[i]==v) (by simpa using heq)]
     obtain ⟨r,ws,h1,h2⟩:=ins i (by omega) hlt0 (fun y hy=>by rw [hx] at hy;cases hy;omega)
     exact ⟨r,ws,h1,h2⟩
 have:=main zs.length 0 k (by omega) (by omega) (fun j y hj=>by omega)
 exact this
theorem c106 (r:Int) (zs:List Int) (hI:∀ z∈zs,inI z) (hk:zs.length < k) (hz:zs.length≤1048576):C (k+3) 106 [.agg [.d (.int .i64 r),.d (.list 1 (I1 zs))]]=some [(false,[.d (.list 1 (I1 (zal zs)))])]:=by
 rw [F106.run]
 have hmax:(1048576:Nat)≤maxLen:=by decide
 have main:∀ (m i n:Nat) (acc:List Int),i+m=zs.length→m < n→SS acc→acc.length≤i→(∀ z,z∈acc↔∃ v∈zs.take i,isN v=true∧z = -1 - v)→F106.L3 (k+2) (C (k+2)) n (I1 acc) (i:Int) r (I1 zs)=some [(false,[.d (.list 1 (I1 (zal zs)))])]:=by
  intro m
  induction m with
  | zero =>
   intro i n acc hm hn hS hl hmem
   obtain ⟨n,rfl⟩:∃ j,n=j+1:=⟨n - 1,by omega⟩
   obtain rfl:i=zs.length:=by omega
   rw [List.take_length] at hmem
   rw [F106.L3.succ,zn,ite'_f (lt_f (by omega)),zh1 hS (zj3 zs) (fun z=>by rw [hmem z,zcj])]
  | succ m ih =>
   intro i n acc hm hn hS hl hmem
   obtain ⟨n,rfl⟩:∃ j,n=j+1:=⟨n - 1,by omega⟩
   have hi:i < zs.length:=by omega
   have hx:=List.getElem?_eq_getElem hi
   have htk:∀ z,z∈zs.take (i+1)↔z∈zs.take i∨z=zs[i]:=by
    intro z
    rw [List.take_succ_eq_append_getElem hi]
    simp only [List.mem_append,List.mem_singleton]
   rw [F106.L3.succ,zn,ite'_t (lt_t hi),ite'_t (zo hi)]
   simp only [Int.toNat_natCast,zF (I1_get' hx),List.getElem?_cons_zero,Option.bind_some,zz,zd]
   rw [c119 (hI _ (List.getElem_mem hi)),nnB,zE hi (m:=zs.length) (by omega)]
   cases h:isN zs[i] with
   | true =>
    obtain ⟨r',ws,e1,e2,e3,e4,e5⟩:=zk3 (k:=k+1) acc (-1 - zs[i]) hS (by omega) (by omega)
    rw [ite'_t rfl]
    simp only [if_true]
    rw [e1]
    simp only [zl]
    rw [e2,zh]
    refine ih (i+1) n ws (by omega) (by omega) e5 (by omega) (fun z=>?_)
    rw [e3 z,hmem z]
    constructor
    ·rintro (⟨v,h1,h2⟩ | h1)
     ·exact ⟨v,(htk v).2 (.inl h1),h2⟩
     ·exact ⟨zs[i],(htk _).2 (.inr rfl),h,h1⟩
    ·rintro ⟨v,h1,h2⟩
     rcases (htk v).1 h1 with h1 | rfl
     ·exact .inl ⟨v,h1,h2⟩
     ·exact .inr h2.2
   | false =>
    rw [ite'_f rfl]
    refine ih (i+1) n acc (by omega) (by omega) hS (by omega) (fun z=>?_)
    rw [hmem z]
    constructor
    ·rintro ⟨v,h1,h2⟩
     exact ⟨v,(htk v).2 (.inl h1),h2⟩
    ·rintro ⟨v,h1,h2⟩
     rcases (htk v).1 h1 with h1 | rfl
     ·exact ⟨v,h1,h2⟩
     ·rw [h] at h2;cases h2.1
 exact main zs.length 0 (k+2) [] (by omega) (by omega) (by simp [SS]) (by simp) (fun z=>by simp)
theorem c78 (r:Int) (zs:List Int) (hI:∀ z∈zs,inI z) (hk:zs.length < k) (hz:zs.length≤1048576):C (k+4) 78 [.agg [.d (.int .i64 r),.d (.list 1 (I1 zs))]]=some [(false,[.row 3 1 (I1 (zal zs))])]:=by
 rw [F78.run,c134 zs hI hk hz]
 rfl
end Go.Proofs.YtiacahdabflcdaaGreat.Q

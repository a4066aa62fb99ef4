/-
Towards the law: a machine that runs the program's own code on plain data, its soundness, the library by its contracts, and what the functions compute: part 4. No condition.
-/
import Derived.Test.YthicohakeljdcaaGreatTc
import Derived.Test.YthicohakeljdcaaGreatTb
set_option linter.unusedVariables false
set_option linter.unusedSimpArgs false
namespace Go.Proofs.YthicohakeljdcaaGreat.Q
open Go Ovi
set_option maxRecDepth 1000000
theorem crun (k:Nat) (f:FuncId) {fn:Func} {args:List AV} (h1:prim f=none) (h2:P.funcs[f]? = some fn) (h3:zcr args=false):C (k+1) f args=zc3 P hs (C k) f k fn args:=by
 show za9 P hs prim (k+1) f args=_
 unfold za9
 rw [h1,h2,h3]
 rfl
theorem F12.run (k:Nat) (a0_0 a0_1:Ovi.Rows) (a1:Int):C (k+1) 12 [.agg [.d (.list 3 a0_0),.d (.list 2 a0_1)],.d (.int .i64 a1)]=za ((C k) 21 [.d (.list 3 a0_0),.d (.int .i64 a1)]) fun r5=>zf (resI .i64 1 false 1 r5 0 0) fun n6=>ite' (decide (n6 < 0)) (some ([(false,[.d (.int .i64 (-1))])])) (za ((C k) 66 [.d (.list 2 a0_1),.d (.int .i64 n6)]) fun r7=>zf (resI .i64 1 false 1 r7 0 0) fun n8=>ite' (decide (n8 < 0)) (some ([(false,[.d (.int .i64 (-1))])])) (some ([(false,[.d (.int .i64 n8)])]))):=(crun k 12 (by kernel_rfl) Tryz.func12 rfl).trans (by kernel_rfl)
theorem F14.run (k:Nat) (a0_0 a0_1:Ovi.Rows):C (k+1) 14 [.agg [.d (.list 3 a0_0),.d (.list 2 a0_1)]]=za ((C k) 24 [.d (.list 3 a0_0)]) fun r4=>zc (resO 133 3 1 false 1 r4 0 0) fun l5=>za ((C k) 72 [.d (.list 2 a0_1)]) fun r6=>zc (resF 118 2 1 1 false 1 r6 0 0) fun l7=>some ([(true,[.row 133 3 l5,.frow 118 2 1 l7])]):=(crun k 14 (by kernel_rfl) Tryz.func14 rfl).trans (by kernel_rfl)
theorem F16.run (k:Nat) (a0_0 a0_1 a1_0 a1_1:Ovi.Rows):C (k+1) 16 [.agg [.d (.list 3 a0_0),.d (.list 2 a0_1)],.agg [.d (.list 3 a1_0),.d (.list 2 a1_1)]]=za ((C k) 27 [.d (.list 3 a0_0),.d (.list 3 a1_0)]) fun r6=>zi (resB 1 false 1 r6 0 0) fun b7=>ite' (!b7) (some ([(false,[.d (.bool false)])])) (za ((C k) 76 [.d (.list 2 a0_1),.d (.list 2 a1_1)]) fun r8=>zi (resB 1 false 1 r8 0 0) fun b9=>ite' (!b9) (some ([(false,[.d (.bool false)])])) (some ([(false,[.d (.bool true)])]))):=(crun k 16 (by kernel_rfl) Tryz.func16 rfl).trans (by kernel_rfl)
theorem F18.run (k:Nat) (a0_0 a0_1:Ovi.Rows) (a1:Int):C (k+1) 18 [.agg [.d (.list 3 a0_0),.d (.list 2 a0_1)],.d (.int .i64 a1)]=za ((C k) 78 [.d (.list 3 a0_0),.d (.int .i64 a1)]) fun r5=>zf (resI .i64 1 false 1 r5 0 0) fun n6=>ite' (decide (n6 < 0)) (some ([(false,[.d (.int .i64 (-1))])])) (za ((C k) 79 [.d (.list 2 a0_1),.d (.int .i64 n6)]) fun r7=>zf (resI .i64 1 false 1 r7 0 0) fun n8=>ite' (decide (n8 < 0)) (some ([(false,[.d (.int .i64 (-1))])])) (some ([(false,[.d (.int .i64 n8)])]))):=(crun k 18 (by kernel_rfl) Tryz.func18 rfl).trans (by kernel_rfl)
noncomputable def F21.L5 (k:Nat) (call:zg) (n:Nat) (v0:Ovi.Rows) (v1 v2:Int):Option Res:=zp P hs call 21 k Tryz.f21 [1,1,1,0,1,0] [] n [(0,.d (.list 3 v0)),(1,.d (.int .i64 v1)),(5,.d (.int .i64 v2))] []
theorem F21.L5.succ (k:Nat) (call:zg) (n:Nat) (v0:Ovi.Rows) (v1 v2:Int):F21.L5 k call (n+1) v0 v1 v2=ite' (decide (v2 < ((List.length v0):Int))) (ite' (inR v2 (List.length v0)) (zbg (zbh v0 v2.toNat 0) fun s8=>zf (zm .i64 v0 v2.toNat 1) fun n9=>zi (zam v0 v2.toNat 2) fun b10=>za (call 86 [.agg [.d (.str s8),.d (.int .i64 n9),.d (.bool b10)],.d (.int .i64 v1)]) fun r11=>zf (resI .i64 1 false 1 r11 0 0) fun n12=>ite' (decide (n12 < 0)) (some ([(false,[.d (.int .i64 (-1))])])) (F21.L5 k call n v0 n12 (IntKind.i64.wrap (v2+1)))) none) (some ([(false,[.d (.int .i64 v1)])])):=by kernel_rfl
theorem F21.run (k:Nat) (a0:Ovi.Rows) (a1:Int):C (k+1) 21 [.d (.list 3 a0),.d (.int .i64 a1)]=ite' (decide (IntKind.i64.wrap (a1 - ((List.length a0):Int)) < 0)) (some ([(false,[.d (.int .i64 (-1))])])) (F21.L5 k (C k) k a0 (IntKind.i64.wrap (a1 - ((List.length a0):Int))) 0):=(crun k 21 (by kernel_rfl) Tryz.func21 rfl).trans (by kernel_rfl)
theorem F22.run (k:Nat) (a0_0 a0_1:Ovi.Rows) (a1:Int):C (k+1) 22 [.agg [.d (.list 1 a0_0),.d (.list 2 a0_1)],.d (.int .i64 a1)]=za ((C k) 87 [.d (.list 1 a0_0),.d (.int .i64 a1)]) fun r5=>zf (resI .i64 1 false 1 r5 0 0) fun n6=>ite' (decide (n6 < 0)) (some ([(false,[.d (.int .i64 (-1))])])) (za ((C k) 88 [.d (.list 2 a0_1),.d (.int .i64 n6)]) fun r7=>zf (resI .i64 1 false 1 r7 0 0) fun n8=>ite' (decide (n8 < 0)) (some ([(false,[.d (.int .i64 (-1))])])) (some ([(false,[.d (.int .i64 n8)])]))):=(crun k 22 (by kernel_rfl) Tryz.func22 rfl).trans (by kernel_rfl)
noncomputable def F24.L3 (k:Nat) (call:zg) (n:Nat) (v0:Ovi.Rows) (v1:Int) (v2:Ovi.Rows):Option Res:=zp P hs call 24 k Tryz.f24 [1,1,0,1,0] [] n [(0,.d (.list 3 v0)),(3,AV.own 100003 0),(4,.d (.int .i64 v1))] [(100003,Blk.arr 133 3 0 v2 (0,0,0))]
theorem F24.L3.succ (k:Nat) (call:zg) (n:Nat) (v0:Ovi.Rows) (v1:Int) (v2:Ovi.Rows):F24.L3 k call (n+1) v0 v1 v2=ite' (decide (v1 < ((List.length v0):Int))) (ite' (inR v1 (List.length v0)) (zbg (zbh v0 v1.toNat 0) fun s7=>zf (zm .i64 v0 v1.toNat 1) fun n8=>zi (zam v0 v1.toNat 2) fun b9=>za (call 93 [.agg [.d (.str s7),.d (.int .i64 n8),.d (.bool b9)]]) fun r10=>zbg (resS 1 true 3 r10 0 0) fun s11=>zf (resI .i64 1 true 3 r10 0 1) fun n12=>zi (resB 1 true 3 r10 0 2) fun b13=>ite' (inR v1 (List.length v2)) (F24.L3 k call n v0 (IntKind.i64.wrap (v1+1)) (rowsSet v2 v1.toNat 0 [D.str s11,D.int .i64 n12,D.bool b13])) none) none) (some ([(false,[.row 133 3 v2])])):=by kernel_rfl
theorem F24.run (k:Nat) (a0:Ovi.Rows):C (k+1) 24 [.d (.list 3 a0)]=ite' (((List.length a0):Int)==((List.length a0):Int)) (ite' (inM ((List.length a0):Int)) (F24.L3 k (C k) k a0 0 (za0 ((List.length a0):Int) [D.str ([]:List UInt8),D.int .i64 0,D.bool false])) none) none:=(crun k 24 (by kernel_rfl) Tryz.func24 rfl).trans (by kernel_rfl)
theorem F25.run (k:Nat) (a0_0 a0_1:Ovi.Rows):C (k+1) 25 [.agg [.d (.list 1 a0_0),.d (.list 2 a0_1)]]=za ((C k) 57 [.d (.list 1 a0_0)]) fun r4=>zc (resO 3 1 1 false 1 r4 0 0) fun l5=>za ((C k) 94 [.d (.list 2 a0_1)]) fun r6=>zc (resF 130 2 1 1 false 1 r6 0 0) fun l7=>some ([(true,[.row 3 1 l5,.frow 130 2 1 l7])]):=(crun k 25 (by kernel_rfl) Tryz.func25 rfl).trans (by kernel_rfl)
noncomputable def F27.L4 (k:Nat) (call:zg) (n:Nat) (v0 v1:Ovi.Rows) (v2:Int):Option Res:=zp P hs call 27 k Tryz.f27 [1,1,0,1,0] [] n [(0,.d (.list 3 v0)),(1,.d (.list 3 v1)),(5,.d (.int .i64 v2))] []
theorem F27.L4.succ (k:Nat) (call:zg) (n:Nat) (v0 v1:Ovi.Rows) (v2:Int):F27.L4 k call (n+1) v0 v1 v2=ite' (decide (v2 < ((List.length v0):Int))) (ite' (inR v2 (List.length v0)) (zbg (zbh v0 v2.toNat 0) fun s8=>zf (zm .i64 v0 v2.toNat 1) fun n9=>zi (zam v0 v2.toNat 2) fun b10=>ite' (inR v2 (List.length v1)) (zbg (zbh v1 v2.toNat 0) fun s11=>zf (zm .i64 v1 v2.toNat 1) fun n12=>zi (zam v1 v2.toNat 2) fun b13=>za (call 101 [.agg [.d (.str s8),.d (.int .i64 n9),.d (.bool b10)],.agg [.d (.str s11),.d (.int .i64 n12),.d (.bool b13)]]) fun r14=>zi (resB 1 false 1 r14 0 0) fun b15=>ite' (!b15) (some ([(false,[.d (.bool false)])])) (F27.L4 k call n v0 v1 (IntKind.i64.wrap (v2+1)))) none) none) (some ([(false,[.d (.bool true)])])):=by kernel_rfl
theorem F27.run (k:Nat) (a0 a1:Ovi.Rows):C (k+1) 27 [.d (.list 3 a0),.d (.list 3 a1)]=ite' (((List.length a0):Int) != ((List.length a1):Int)) (some ([(false,[.d (.bool false)])])) (F27.L4 k (C k) k a0 a1 0):=(crun k 27 (by kernel_rfl) Tryz.func27 rfl).trans (by kernel_rfl)
theorem F28.run (k:Nat) (a0_0 a0_1 a1_0 a1_1:Ovi.Rows):C (k+1) 28 [.agg [.d (.list 1 a0_0),.d (.list 2 a0_1)],.agg [.d (.list 1 a1_0),.d (.list 2 a1_1)]]=za ((C k) 60 [.d (.list 1 a0_0),.d (.list 1 a1_0)]) fun r6=>zi (resB 1 false 1 r6 0 0) fun b7=>ite' (!b7) (some ([(false,[.d (.bool false)])])) (za ((C k) 102 [.d (.list 2 a0_1),.d (.list 2 a1_1)]) fun r8=>zi (resB 1 false 1 r8 0 0) fun b9=>ite' (!b9) (some ([(false,[.d (.bool false)])])) (some ([(false,[.d (.bool true)])]))):=(crun k 28 (by kernel_rfl) Tryz.func28 rfl).trans (by kernel_rfl)
noncomputable def F31.L6 (k:Nat) (call:zg) (n:Nat) (v0:List (List D)) (v1:Int) (v2 v3 v4:Ovi.Rows):Option Res:=zp P hs call 31 k Tryz.f31 [1,1,1,1,0,1,0] [] n [(3,.var 192 0),(5,.d (.list 1 v0)),(6,AV.own 100006 0),(7,.d (.int .i64 v1))] [(192,Blk.var [.d (.list 1 v2),.d (.list 2 v3)]),(100006,Blk.arr 39 1 0 v4 (0,0,0))]
noncomputable def F31.L10 (k:Nat) (call:zg) (k6 n:Nat) (v0:List (List D)) (v1 v2:Int) (v3 v4 v5:Ovi.Rows) (v6:List (List D)):Option Res:=zp P hs call 31 k Tryz.f31 [1,1,1,1,0,1,0,0,1,0,0,1,0,1,0] [k6] n [(3,.var 192 0),(5,.d (.list 1 v0)),(6,AV.own 100006 0),(7,.d (.int .i64 v1)),(8,AV.own 100008 0),(9,.d (.int .i64 v2))] [(192,Blk.var [.d (.list 1 v3),.d (.list 2 v4)]),(100006,Blk.arr 39 1 0 v5 (0,0,0)),(100008,Blk.arr 3 1 0 v6 (0,0,0))]
theorem F31.L6.succ (k:Nat) (call:zg) (n:Nat) (v0:List (List D)) (v1:Int) (v2 v3 v4:Ovi.Rows):F31.L6 k call (n+1) v0 v1 v2 v3 v4=ite' (decide (v1 < ((List.length v4):Int))) (F31.L10 k call n k v0 v1 0 v2 v3 v4 []) (some ([(false,[.d (.list 1 v0)])])):=by kernel_rfl
theorem F31.L10.succ (k:Nat) (call:zg) (k6 n:Nat) (v0:List (List D)) (v1 v2:Int) (v3 v4 v5:Ovi.Rows) (v6:List (List D)):F31.L10 k call k6 (n+1) v0 v1 v2 v3 v4 v5 v6=ite' (decide (v2 < ((List.length v3):Int))) (ite' (inR v1 (List.length v5)) (zc (zr 1 v5 v1.toNat 0) fun l15=>ite' (inR v2 (List.length v3)) (zf (zm .i64 v3 v2.toNat 0) fun n16=>ite' (inR n16 (List.length l15)) (zf (zm .i64 l15 n16.toNat 0) fun n17=>ite' (fits (v6.length+[[D.int .i64 n17]].length)) (F31.L10 k call k6 n v0 v1 (IntKind.i64.wrap (v2+1)) v3 v4 v5 (v6++[[D.int .i64 n17]])) none) none) none) none) (za (call 106 [.d (.list 1 v0),.d (.list 1 v6)]) fun r15=>zc (resL 1 1 false 1 r15 0 0) fun l16=>F31.L6 k call k6 l16 (IntKind.i64.wrap (v1+1)) v3 v4 v5):=by kernel_rfl
theorem F31.run (k:Nat) (a0_0 a0_1 a1_0 a1_1:Ovi.Rows):C (k+1) 31 [.agg [.d (.list 3 a0_0),.d (.list 2 a0_1)],.agg [.d (.list 1 a1_0),.d (.list 2 a1_1)]]=za ((C k) 89 [.d (.list 3 a0_0),.agg [.d (.list 1 a1_0),.d (.list 2 a1_1)]]) fun r6=>zi (resB 1 false 1 r6 0 0) fun b7=>ite' (!b7) (some ([(false,[.nil])])) (za ((C k) 105 [.agg [.d (.list 3 a0_0),.d (.list 2 a0_1)],.d (.list 2 a1_1)]) fun r8=>zc (resO 39 1 1 false 1 r8 0 0) fun l9=>F31.L6 k (C k) k [] 0 a1_0 a1_1 l9):=(crun k 31 (by kernel_rfl) Tryz.func31 rfl).trans (by kernel_rfl)
theorem F32.run (k:Nat) (a0_0 a0_1 a1_0 a1_1:Ovi.Rows):C (k+1) 32 [.agg [.d (.list 3 a0_0),.d (.list 2 a0_1)],.agg [.d (.list 1 a1_0),.d (.list 2 a1_1)]]=za ((C k) 95 [.d (.list 3 a0_0),.agg [.d (.list 1 a1_0),.d (.list 2 a1_1)]]) fun r6=>zi (resB 1 false 1 r6 0 0) fun b7=>ite' (!b7) (some ([(false,[.nil])])) (za ((C k) 107 [.agg [.d (.list 3 a0_0),.d (.list 2 a0_1)],.agg [.d (.list 1 a1_0),.d (.list 2 a1_1)],.d (.fn 108 [])]) fun r8=>zc (resF 39 1 1 1 false 1 r8 0 0) fun l9=>some ([(false,[.frow 39 1 1 l9])])):=(crun k 32 (by kernel_rfl) Tryz.func32 rfl).trans (by kernel_rfl)
noncomputable def F33.L4 (k:Nat) (call:zg) (n:Nat) (v0 v1:Ovi.Rows) (v2:Int):Option Res:=zp P hs call 33 k Tryz.f33 [1,1,0,1,0] [] n [(0,.d (.list 1 v0)),(1,.d (.list 1 v1)),(5,.d (.int .i64 v2))] []
theorem F33.L4.succ (k:Nat) (call:zg) (n:Nat) (v0 v1:Ovi.Rows) (v2:Int):F33.L4 k call (n+1) v0 v1 v2=ite' (decide (v2 < ((List.length v0):Int))) (ite' (inR v2 (List.length v0)) (zc (zr 1 v0 v2.toNat 0) fun l8=>ite' (inR v2 (List.length v1)) (zc (zr 1 v1 v2.toNat 0) fun l9=>za (call 60 [.d (.list 1 l8),.d (.list 1 l9)]) fun r10=>zi (resB 1 false 1 r10 0 0) fun b11=>ite' (!b11) (some ([(false,[.d (.bool false)])])) (F33.L4 k call n v0 v1 (IntKind.i64.wrap (v2+1)))) none) none) (some ([(false,[.d (.bool true)])])):=by kernel_rfl
theorem F33.run (k:Nat) (a0 a1:Ovi.Rows):C (k+1) 33 [.d (.list 1 a0),.d (.list 1 a1)]=ite' (((List.length a0):Int) != ((List.length a1):Int)) (some ([(false,[.d (.bool false)])])) (F33.L4 k (C k) k a0 a1 0):=(crun k 33 (by kernel_rfl) Tryz.func33 rfl).trans (by kernel_rfl)
noncomputable def F35.L2 (k:Nat) (call:zg) (n:Nat) (v0:Ovi.Rows) (v1 v2:Int):Option Res:=zp P hs call 35 k Tryz.f35 [1,0,1,0] [] n [(0,.d (.list 1 v0)),(1,.d (.int .i64 v1)),(5,.d (.int .i64 v2))] []
theorem F35.L2.succ (k:Nat) (call:zg) (n:Nat) (v0:Ovi.Rows) (v1 v2:Int):F35.L2 k call (n+1) v0 v1 v2=ite' (decide (v2 < ((List.length v0):Int))) (ite' (inR v2 (List.length v0)) (zc (zr 1 v0 v2.toNat 0) fun l8=>za (call 109 [.d (.list 1 l8),.d (.int .i64 v1)]) fun r9=>zf (resI .i64 1 false 1 r9 0 0) fun n10=>ite' (decide (n10 < 0)) (some ([(false,[.d (.int .i64 (-1))])])) (F35.L2 k call n v0 n10 (IntKind.i64.wrap (v2+1)))) none) (some ([(false,[.d (.int .i64 v1)])])):=by kernel_rfl
theorem F35.run (k:Nat) (a0:Ovi.Rows) (a1:Int):C (k+1) 35 [.d (.list 1 a0),.d (.int .i64 a1)]=F35.L2 k (C k) k a0 a1 0:=(crun k 35 (by kernel_rfl) Tryz.func35 rfl).trans (by kernel_rfl)
noncomputable def F36.L4 (k:Nat) (call:zg) (n:Nat) (v0:Ovi.Rows) (v1:Int) (v2:List (List D)):Option Res:=zp P hs call 36 k Tryz.f36 [1,1,1,0,1,0] [] n [(5,AV.own 100005 0),(6,.d (.list 1 v0)),(7,.d (.int .i64 v1))] [(100005,Blk.arr 39 1 0 v2 (0,0,0))]
noncomputable def F36.L8 (k:Nat) (call:zg) (k4 n:Nat) (v0:Ovi.Rows) (v1:Int) (v2:Bool) (v3:Int) (v4:List (List D)):Option Res:=zp P hs call 36 k Tryz.f36 [1,1,1,0,1,0,0,1,0,0,1,0,1,0] [k4] n [(5,AV.own 100005 0),(6,.d (.list 1 v0)),(7,.d (.int .i64 v1)),(8,.d (.bool v2)),(9,.d (.int .i64 v3))] [(100005,Blk.arr 39 1 0 v4 (0,0,0))]
theorem F36.L4.succ (k:Nat) (call:zg) (n:Nat) (v0:Ovi.Rows) (v1:Int) (v2:List (List D)):F36.L4 k call (n+1) v0 v1 v2=ite' (decide (v1 < ((List.length v0):Int))) (F36.L8 k call n k v0 v1 true 0 v2) (some ([(false,[.row 39 1 v2])])):=by kernel_rfl
theorem F36.L8.succ (k:Nat) (call:zg) (k4 n:Nat) (v0:Ovi.Rows) (v1:Int) (v2:Bool) (v3:Int) (v4:List (List D)):F36.L8 k call k4 (n+1) v0 v1 v2 v3 v4=ite' (inR v1 (List.length v0)) (zc (zr 1 v0 v1.toNat 0) fun l13=>ite' (decide (v3 < ((List.length l13):Int))) (ite' v2 (ite' (inR v1 (List.length v0)) (zc (zr 1 v0 v1.toNat 0) fun l14=>ite' (inR v3 (List.length l14)) (zf (zm .i64 l14 v3.toNat 0) fun n15=>F36.L8 k call k4 n v0 v1 (decide (n15 ≥ 0)) (IntKind.i64.wrap (v3+1)) v4) none) none) (F36.L8 k call k4 n v0 v1 false (IntKind.i64.wrap (v3+1)) v4)) (ite' v2 (ite' (inR v1 (List.length v0)) (zc (zr 1 v0 v1.toNat 0) fun l14=>ite' (fits (v4.length+[[D.list 1 l14]].length)) (F36.L4 k call k4 v0 (IntKind.i64.wrap (v1+1)) (v4++[[D.list 1 l14]])) none) none) (F36.L4 k call k4 v0 (IntKind.i64.wrap (v1+1)) v4))) none:=by kernel_rfl
theorem F36.run (k:Nat) (a0_0 a0_1 a1_0 a1_1:Ovi.Rows):C (k+1) 36 [.agg [.d (.list 3 a0_0),.d (.list 2 a0_1)],.agg [.d (.list 1 a1_0),.d (.list 2 a1_1)]]=za ((C k) 31 [.agg [.d (.list 3 a0_0),.d (.list 2 a0_1)],.agg [.d (.list 1 a1_0),.d (.list 2 a1_1)]]) fun r6=>zc (resL 1 1 false 1 r6 0 0) fun l7=>F36.L4 k (C k) k l7 0 []:=(crun k 36 (by kernel_rfl) Tryz.func36 rfl).trans (by kernel_rfl)
theorem F37.run (k:Nat) (a0_0 a0_1 a1_0 a1_1:Ovi.Rows):C (k+1) 37 [.agg [.d (.list 3 a0_0),.d (.list 2 a0_1)],.agg [.d (.list 1 a1_0),.d (.list 2 a1_1)]]=za ((C k) 32 [.agg [.d (.list 3 a0_0),.d (.list 2 a0_1)],.agg [.d (.list 1 a1_0),.d (.list 2 a1_1)]]) fun r6=>zc (resF 39 1 1 1 false 1 r6 0 0) fun l7=>ite' (depR 1 l7) (za ((C k) 110 [.var 0 0,.d (.int .i64 (↑39:Int)),.d (.list 1 l7)]) fun r8=>zc (resF 39 1 0 2 false 1 r8 0 0) fun l9=>some ([(false,[.frow 39 1 1 l9])])) none:=(crun k 37 (by kernel_rfl) Tryz.func37 rfl).trans (by kernel_rfl)
noncomputable def F44.L5 (k:Nat) (call:zg) (n:Nat) (v0:Ovi.Rows) (v1 v2:Int):Option Res:=zp P hs call 44 k Tryz.f44 [1,1,1,0,1,0] [] n [(0,.d (.list 5 v0)),(1,.d (.int .i64 v1)),(5,.d (.int .i64 v2))] []
theorem F44.L5.succ (k:Nat) (call:zg) (n:Nat) (v0:Ovi.Rows) (v1 v2:Int):F44.L5 k call (n+1) v0 v1 v2=ite' (decide (v2 < ((List.length v0):Int))) (ite' (inR v2 (List.length v0)) (zc (zr 2 v0 v2.toNat 0) fun l8=>zc (zr 2 v0 v2.toNat 1) fun l9=>zi (zam v0 v2.toNat 2) fun b10=>zf (zm .i64 v0 v2.toNat 3) fun n11=>zf (zm .i64 v0 v2.toNat 4) fun n12=>za (call 114 [.agg [.d (.list 2 l8),.d (.list 2 l9),.d (.bool b10),.d (.int .i64 n11),.d (.int .i64 n12)],.d (.int .i64 v1)]) fun r13=>zf (resI .i64 1 false 1 r13 0 0) fun n14=>ite' (decide (n14 < 0)) (some ([(false,[.d (.int .i64 (-1))])])) (F44.L5 k call n v0 n14 (IntKind.i64.wrap (v2+1)))) none) (some ([(false,[.d (.int .i64 v1)])])):=by kernel_rfl
theorem F44.run (k:Nat) (a0:Ovi.Rows) (a1:Int):C (k+1) 44 [.d (.list 5 a0),.d (.int .i64 a1)]=ite' (decide (IntKind.i64.wrap (a1 - ((List.length a0):Int)) < 0)) (some ([(false,[.d (.int .i64 (-1))])])) (F44.L5 k (C k) k a0 (IntKind.i64.wrap (a1 - ((List.length a0):Int))) 0):=(crun k 44 (by kernel_rfl) Tryz.func44 rfl).trans (by kernel_rfl)
noncomputable def F45.L5 (k:Nat) (call:zg) (n:Nat) (v0:Ovi.Rows) (v1 v2:Int):Option Res:=zp P hs call 45 k Tryz.f45 [1,1,1,0,1,0] [] n [(0,.d (.list 2 v0)),(1,.d (.int .i64 v1)),(5,.d (.int .i64 v2))] []
theorem F45.L5.succ (k:Nat) (call:zg) (n:Nat) (v0:Ovi.Rows) (v1 v2:Int):F45.L5 k call (n+1) v0 v1 v2=ite' (decide (v2 < ((List.length v0):Int))) (ite' (inR v2 (List.length v0)) (zf (zm .i64 v0 v2.toNat 0) fun n8=>zc (zr 1 v0 v2.toNat 1) fun l9=>za (call 115 [.agg [.d (.int .i64 n8),.d (.list 1 l9)],.d (.int .i64 v1)]) fun r10=>zf (resI .i64 1 false 1 r10 0 0) fun n11=>ite' (decide (n11 < 0)) (some ([(false,[.d (.int .i64 (-1))])])) (F45.L5 k call n v0 n11 (IntKind.i64.wrap (v2+1)))) none) (some ([(false,[.d (.int .i64 v1)])])):=by kernel_rfl
theorem F45.run (k:Nat) (a0:Ovi.Rows) (a1:Int):C (k+1) 45 [.d (.list 2 a0),.d (.int .i64 a1)]=ite' (decide (IntKind.i64.wrap (a1 - ((List.length a0):Int)) < 0)) (some ([(false,[.d (.int .i64 (-1))])])) (F45.L5 k (C k) k a0 (IntKind.i64.wrap (a1 - ((List.length a0):Int))) 0):=(crun k 45 (by kernel_rfl) Tryz.func45 rfl).trans (by kernel_rfl)
noncomputable def F46.L6 (k:Nat) (call:zg) (n:Nat) (v0 v1:Ovi.Rows) (v2 v3:Int) (v4 v5:List (List D)) (v6 v7:Ovi.Rows):Option Res:=zp P hs call 46 k Tryz.f46 [1,1,1,1,0,1,0] [] n [(1,.d (.list 5 v0)),(2,.d (.list 2 v1)),(6,.var 384 0),(9,.var 576 0),(10,.d (.int .i64 v2)),(11,.d (.int .i64 v3))] [(384,Blk.var [AV.own 200096 0,AV.own 200097 0]),(200096,Blk.arr 133 3 0 v4 (0,0,0)),(200097,Blk.arr 118 2 0 v5 (1,0,0)),(576,Blk.var [.d (.list 3 v6),.d (.list 2 v7)])]
theorem F46.L6.succ (k:Nat) (call:zg) (n:Nat) (v0 v1:Ovi.Rows) (v2 v3:Int) (v4 v5:List (List D)) (v6 v7:Ovi.Rows):F46.L6 k call (n+1) v0 v1 v2 v3 v4 v5 v6 v7=ite' (decide (v3 < ((List.length v1):Int))) (ite' (v2 != 1) (some ([(true,[.nil,.nil]),(false,[.d (.int .i64 0)]),(false,[.d (.bool false)])])) (ite' (inR v3 (List.length v1)) (zf (zm .i64 v1 v3.toNat 0) fun n15=>za (call 68 [.d (.int .i64 n15),.d (.int .i64 0),.d (.int .i64 (IntKind.i64.wrap (((List.length v0):Int) - 1)))]) fun r16=>zi (resB 1 false 1 r16 0 0) fun b17=>ite' (!b17) (some ([(true,[.nil,.nil]),(false,[.d (.int .i64 0)]),(false,[.d (.bool false)])])) (ite' (inR v3 (List.length v1)) (zf (zm .i64 v1 v3.toNat 0) fun n18=>ite' (inR n18 (List.length v0)) (zc (zr 2 v0 n18.toNat 0) fun l19=>zc (zr 2 v0 n18.toNat 1) fun l20=>zi (zam v0 n18.toNat 2) fun b21=>zf (zm .i64 v0 n18.toNat 3) fun n22=>zf (zm .i64 v0 n18.toNat 4) fun n23=>ite' (inR v3 (List.length v1)) (zc (zr 1 v1 v3.toNat 1) fun l24=>za (call 117 [.agg [.d (.list 3 v6),.d (.list 2 v7)],.agg [.d (.list 2 l19),.d (.list 2 l20),.d (.bool b21),.d (.int .i64 n22),.d (.int .i64 n23)],.d (.list 1 l24)]) fun r25=>zi (resB 1 false 1 r25 0 0) fun b26=>ite' (!b26) (some ([(true,[.nil,.nil]),(false,[.d (.int .i64 0)]),(false,[.d (.bool false)])])) (ite' (inR v3 (List.length v1)) (zf (zm .i64 v1 v3.toNat 0) fun n27=>ite' (inR n27 (List.length v0)) (zc (zr 2 v0 n27.toNat 0) fun l28=>zc (zr 2 v0 n27.toNat 1) fun l29=>zi (zam v0 n27.toNat 2) fun b30=>zf (zm .i64 v0 n27.toNat 3) fun n31=>zf (zm .i64 v0 n27.toNat 4) fun n32=>ite' (inR v3 (List.length v1)) (zc (zr 1 v1 v3.toNat 1) fun l33=>za (call 118 [.agg [.d (.list 3 v6),.d (.list 2 v7)],.agg [.d (.list 2 l28),.d (.list 2 l29),.d (.bool b30),.d (.int .i64 n31),.d (.int .i64 n32)],.d (.list 1 l33)]) fun r34=>zc (resL 3 2 true 2 r34 0 0) fun l35=>zc (resL 2 2 true 2 r34 0 1) fun l36=>zf (resI .i64 2 false 1 r34 1 0) fun n37=>F46.L6 k call n v0 v1 n37 (IntKind.i64.wrap (v3+1)) v4 v5 l35 l36) none) none) none)) none) none) none)) none)) (some ([(true,[.d (.list 3 v6),.d (.list 2 v7)]),(false,[.d (.int .i64 v2)]),(false,[.d (.bool true)])])):=by kernel_rfl
theorem F46.run (k:Nat) (a0_0 a0_1 a1 a2:Ovi.Rows):C (k+1) 46 [.agg [.d (.list 3 a0_0),.d (.list 2 a0_1)],.d (.list 5 a1),.d (.list 2 a2)]=za ((C k) 67 [.agg [.d (.list 3 a0_0),.d (.list 2 a0_1)]]) fun r6=>zi (resB 1 false 1 r6 0 0) fun b7=>ite' (!b7) (some ([(true,[.nil,.nil]),(false,[.d (.int .i64 0)]),(false,[.d (.bool false)])])) (za ((C k) 116 [.d (.list 3 a0_0),.d (.list 5 a1)]) fun r8=>zi (resB 1 false 1 r8 0 0) fun b9=>ite' (!b9) (some ([(true,[.nil,.nil]),(false,[.d (.int .i64 0)]),(false,[.d (.bool false)])])) (za ((C k) 92 [.agg [.d (.list 3 a0_0),.d (.list 2 a0_1)]]) fun r10=>zc (resO 133 3 1 true 2 r10 0 0) fun l11=>zc (resF 118 2 1 1 true 2 r10 0 1) fun l12=>F46.L6 k (C k) k a1 a2 1 0 [] [] l11 l12)):=(crun k 46 (by kernel_rfl) Tryz.func46 rfl).trans (by kernel_rfl)
noncomputable def F47.L3 (k:Nat) (call:zg) (n:Nat) (v0:Ovi.Rows) (v1:Int) (v2:Ovi.Rows):Option Res:=zp P hs call 47 k Tryz.f47 [1,1,0,1,0] [] n [(0,.d (.list 5 v0)),(3,AV.own 100003 0),(4,.d (.int .i64 v1))] [(100003,Blk.arr 157 5 0 v2 (2,0,0))]
theorem F47.L3.succ (k:Nat) (call:zg) (n:Nat) (v0:Ovi.Rows) (v1:Int) (v2:Ovi.Rows):F47.L3 k call (n+1) v0 v1 v2=ite' (decide (v1 < ((List.length v0):Int))) (ite' (inR v1 (List.length v0)) (zc (zr 2 v0 v1.toNat 0) fun l7=>zc (zr 2 v0 v1.toNat 1) fun l8=>zi (zam v0 v1.toNat 2) fun b9=>zf (zm .i64 v0 v1.toNat 3) fun n10=>zf (zm .i64 v0 v1.toNat 4) fun n11=>za (call 119 [.agg [.d (.list 2 l7),.d (.list 2 l8),.d (.bool b9),.d (.int .i64 n10),.d (.int .i64 n11)]]) fun r12=>zc (resF 130 2 1 1 true 5 r12 0 0) fun l13=>zc (resF 130 2 1 1 true 5 r12 0 1) fun l14=>zi (resB 1 true 5 r12 0 2) fun b15=>zf (resI .i64 1 true 5 r12 0 3) fun n16=>zf (resI .i64 1 true 5 r12 0 4) fun n17=>ite' (inR v1 (List.length v2)) (F47.L3 k call n v0 (IntKind.i64.wrap (v1+1)) (rowsSet v2 v1.toNat 0 [D.list 2 l13,D.list 2 l14,D.bool b15,D.int .i64 n16,D.int .i64 n17])) none) none) (some ([(false,[.frow 157 5 2 v2])])):=by kernel_rfl
theorem F47.run (k:Nat) (a0:Ovi.Rows):C (k+1) 47 [.d (.list 5 a0)]=ite' (((List.length a0):Int)==((List.length a0):Int)) (ite' (inM ((List.length a0):Int)) (F47.L3 k (C k) k a0 0 (za0 ((List.length a0):Int) [D.list 2 [],D.list 2 [],D.bool false,D.int .i64 0,D.int .i64 0])) none) none:=(crun k 47 (by kernel_rfl) Tryz.func47 rfl).trans (by kernel_rfl)
noncomputable def F48.L3 (k:Nat) (call:zg) (n:Nat) (v0:Ovi.Rows) (v1:Int) (v2:Ovi.Rows):Option Res:=zp P hs call 48 k Tryz.f48 [1,1,0,1,0] [] n [(0,.d (.list 2 v0)),(3,AV.own 100003 0),(4,.d (.int .i64 v1))] [(100003,Blk.arr 154 2 0 v2 (1,0,0))]
theorem F48.L3.succ (k:Nat) (call:zg) (n:Nat) (v0:Ovi.Rows) (v1:Int) (v2:Ovi.Rows):F48.L3 k call (n+1) v0 v1 v2=ite' (decide (v1 < ((List.length v0):Int))) (ite' (inR v1 (List.length v0)) (zf (zm .i64 v0 v1.toNat 0) fun n7=>zc (zr 1 v0 v1.toNat 1) fun l8=>za (call 120 [.agg [.d (.int .i64 n7),.d (.list 1 l8)]]) fun r9=>zf (resI .i64 1 true 2 r9 0 0) fun n10=>zc (resO 3 1 1 true 2 r9 0 1) fun l11=>ite' (inR v1 (List.length v2)) (F48.L3 k call n v0 (IntKind.i64.wrap (v1+1)) (rowsSet v2 v1.toNat 0 [D.int .i64 n10,D.list 1 l11])) none) none) (some ([(false,[.frow 154 2 1 v2])])):=by kernel_rfl
theorem F48.run (k:Nat) (a0:Ovi.Rows):C (k+1) 48 [.d (.list 2 a0)]=ite' (((List.length a0):Int)==((List.length a0):Int)) (ite' (inM ((List.length a0):Int)) (F48.L3 k (C k) k a0 0 (za0 ((List.length a0):Int) [D.int .i64 0,D.list 1 []])) none) none:=(crun k 48 (by kernel_rfl) Tryz.func48 rfl).trans (by kernel_rfl)
noncomputable def F49.L5 (k:Nat) (call:zg) (n:Nat) (v0:Ovi.Rows) (v1:Int) (v2:Ovi.Rows) (v3 v4:Int) (v5 v6:List (List D)) (v7 v8:Ovi.Rows):Option Res:=zp P hs call 49 k Tryz.f49 [1,1,1,0,1,0] [] n [(1,.d (.list 5 v0)),(6,.var 384 0),(9,.var 576 0),(10,.d (.int .i64 v1)),(26,.d (.list 2 v2)),(27,.d (.int .i64 v3)),(28,.d (.int .i64 v4))] [(384,Blk.var [AV.own 200096 0,AV.own 200097 0]),(200096,Blk.arr 133 3 0 v5 (0,0,0)),(200097,Blk.arr 118 2 0 v6 (1,0,0)),(576,Blk.var [AV.own 200144 0,AV.own 200145 0]),(200144,Blk.arr 133 3 0 v7 (0,0,0)),(200145,Blk.arr 118 2 0 v8 (1,0,0))]
theorem F49.L5.succ (k:Nat) (call:zg) (n:Nat) (v0:Ovi.Rows) (v1:Int) (v2:Ovi.Rows) (v3 v4:Int) (v5 v6:List (List D)) (v7 v8:Ovi.Rows):F49.L5 k call (n+1) v0 v1 v2 v3 v4 v5 v6 v7 v8=ite' (decide (v4 < v3)) (ite' (inR v4 (List.length v2)) (zf (zm .i64 v2 v4.toNat 0) fun n16=>zc (zr 1 v2 v4.toNat 1) fun l17=>ite' (v1 != 1) (some ([(true,[.nil,.nil]),(false,[.d (.int .i64 0)]),(false,[.d (.bool false)])])) (za (call 73 [.d (.int .i64 n16),.d (.int .i64 0),.d (.int .i64 (IntKind.i64.wrap (((List.length v0):Int) - 1)))]) fun r18=>zi (resB 1 false 1 r18 0 0) fun b19=>ite' (!b19) (some ([(true,[.nil,.nil]),(false,[.d (.int .i64 0)]),(false,[.d (.bool false)])])) (ite' (inR n16 (List.length v0)) (zc (zr 2 v0 n16.toNat 0) fun l20=>zc (zr 2 v0 n16.toNat 1) fun l21=>zi (zam v0 n16.toNat 2) fun b22=>zf (zm .i64 v0 n16.toNat 3) fun n23=>zf (zm .i64 v0 n16.toNat 4) fun n24=>za (call 122 [.agg [.d (.list 3 v7),.d (.list 2 v8)],.agg [.d (.list 2 l20),.d (.list 2 l21),.d (.bool b22),.d (.int .i64 n23),.d (.int .i64 n24)],.d (.list 1 l17)]) fun r25=>zc (resO 133 3 2 true 2 r25 0 0) fun l26=>zc (resF 118 2 1 2 true 2 r25 0 1) fun l27=>zf (resI .i64 2 false 1 r25 1 0) fun n28=>ite' (n28==0) (some ([(true,[.nil,.nil]),(false,[.d (.int .i64 0)]),(false,[.d (.bool false)])])) (F49.L5 k call n v0 n28 v2 v3 (IntKind.i64.wrap (v4+1)) v5 v6 l26 l27)) none))) none) (some ([(true,[.frow 133 3 0 v7,.frow 118 2 1 v8]),(false,[.d (.int .i64 v1)]),(false,[.d (.bool true)])])):=by kernel_rfl
theorem F49.run (k:Nat) (a0_0 a0_1 a1 a2:Ovi.Rows):C (k+1) 49 [.agg [.d (.list 3 a0_0),.d (.list 2 a0_1)],.d (.list 5 a1),.d (.list 2 a2)]=za ((C k) 100 [.agg [.d (.list 3 a0_0),.d (.list 2 a0_1)]]) fun r6=>zi (resB 1 false 1 r6 0 0) fun b7=>ite' (!b7) (some ([(true,[.nil,.nil]),(false,[.d (.int .i64 0)]),(false,[.d (.bool false)])])) (za ((C k) 121 [.d (.list 3 a0_0),.d (.list 5 a1)]) fun r8=>zi (resB 1 false 1 r8 0 0) fun b9=>ite' (!b9) (some ([(true,[.nil,.nil]),(false,[.d (.int .i64 0)]),(false,[.d (.bool false)])])) (za ((C k) 98 [.agg [.d (.list 3 a0_0),.d (.list 2 a0_1)]]) fun r10=>zc (resO 133 3 1 true 2 r10 0 0) fun l11=>zc (resF 118 2 1 1 true 2 r10 0 1) fun l12=>F49.L5 k (C k) k a1 1 a2 (((List.length a2):Int)) 0 [] [] l11 l12)):=(crun k 49 (by kernel_rfl) Tryz.func49 rfl).trans (by kernel_rfl)
noncomputable def F50.L4 (k:Nat) (call:zg) (n:Nat) (v0 v1:Ovi.Rows) (v2:Int):Option Res:=zp P hs call 50 k Tryz.f50 [1,1,0,1,0] [] n [(0,.d (.list 5 v0)),(1,.d (.list 5 v1)),(5,.d (.int .i64 v2))] []
theorem F50.L4.succ (k:Nat) (call:zg) (n:Nat) (v0 v1:Ovi.Rows) (v2:Int):F50.L4 k call (n+1) v0 v1 v2=ite' (decide (v2 < ((List.length v0):Int))) (ite' (inR v2 (List.length v0)) (zc (zr 2 v0 v2.toNat 0) fun l8=>zc (zr 2 v0 v2.toNat 1) fun l9=>zi (zam v0 v2.toNat 2) fun b10=>zf (zm .i64 v0 v2.toNat 3) fun n11=>zf (zm .i64 v0 v2.toNat 4) fun n12=>ite' (inR v2 (List.length v1)) (zc (zr 2 v1 v2.toNat 0) fun l13=>zc (zr 2 v1 v2.toNat 1) fun l14=>zi (zam v1 v2.toNat 2) fun b15=>zf (zm .i64 v1 v2.toNat 3) fun n16=>zf (zm .i64 v1 v2.toNat 4) fun n17=>za (call 123 [.agg [.d (.list 2 l8),.d (.list 2 l9),.d (.bool b10),.d (.int .i64 n11),.d (.int .i64 n12)],.agg [.d (.list 2 l13),.d (.list 2 l14),.d (.bool b15),.d (.int .i64 n16),.d (.int .i64 n17)]]) fun r18=>zi (resB 1 false 1 r18 0 0) fun b19=>ite' (!b19) (some ([(false,[.d (.bool false)])])) (F50.L4 k call n v0 v1 (IntKind.i64.wrap (v2+1)))) none) none) (some ([(false,[.d (.bool true)])])):=by kernel_rfl
theorem F50.run (k:Nat) (a0 a1:Ovi.Rows):C (k+1) 50 [.d (.list 5 a0),.d (.list 5 a1)]=ite' (((List.length a0):Int) != ((List.length a1):Int)) (some ([(false,[.d (.bool false)])])) (F50.L4 k (C k) k a0 a1 0):=(crun k 50 (by kernel_rfl) Tryz.func50 rfl).trans (by kernel_rfl)
noncomputable def F51.L4 (k:Nat) (call:zg) (n:Nat) (v0 v1:Ovi.Rows) (v2:Int):Option Res:=zp P hs call 51 k Tryz.f51 [1,1,0,1,0] [] n [(0,.d (.list 2 v0)),(1,.d (.list 2 v1)),(5,.d (.int .i64 v2))] []
theorem F51.L4.succ (k:Nat) (call:zg) (n:Nat) (v0 v1:Ovi.Rows) (v2:Int):F51.L4 k call (n+1) v0 v1 v2=ite' (decide (v2 < ((List.length v0):Int))) (ite' (inR v2 (List.length v0)) (zf (zm .i64 v0 v2.toNat 0) fun n8=>zc (zr 1 v0 v2.toNat 1) fun l9=>ite' (inR v2 (List.length v1)) (zf (zm .i64 v1 v2.toNat 0) fun n10=>zc (zr 1 v1 v2.toNat 1) fun l11=>za (call 124 [.agg [.d (.int .i64 n8),.d (.list 1 l9)],.agg [.d (.int .i64 n10),.d (.list 1 l11)]]) fun r12=>zi (resB 1 false 1 r12 0 0) fun b13=>ite' (!b13) (some ([(false,[.d (.bool false)])])) (F51.L4 k call n v0 v1 (IntKind.i64.wrap (v2+1)))) none) none) (some ([(false,[.d (.bool true)])])):=by kernel_rfl
theorem F51.run (k:Nat) (a0 a1:Ovi.Rows):C (k+1) 51 [.d (.list 2 a0),.d (.list 2 a1)]=ite' (((List.length a0):Int) != ((List.length a1):Int)) (some ([(false,[.d (.bool false)])])) (F51.L4 k (C k) k a0 a1 0):=(crun k 51 (by kernel_rfl) Tryz.func51 rfl).trans (by kernel_rfl)
noncomputable def F57.L3 (k:Nat) (call:zg) (n:Nat) (v0:Ovi.Rows) (v1:Int) (v2:Ovi.Rows):Option Res:=zp P hs call 57 k Tryz.f57 [1,1,0,1,0] [] n [(0,.d (.list 1 v0)),(3,AV.own 100003 0),(4,.d (.int .i64 v1))] [(100003,Blk.arr 3 1 0 v2 (0,0,0))]
theorem F57.L3.succ (k:Nat) (call:zg) (n:Nat) (v0:Ovi.Rows) (v1:Int) (v2:Ovi.Rows):F57.L3 k call (n+1) v0 v1 v2=ite' (decide (v1 < ((List.length v0):Int))) (ite' (inR v1 (List.length v0)) (zf (zm .i64 v0 v1.toNat 0) fun n7=>ite' (inR v1 (List.length v2)) (F57.L3 k call n v0 (IntKind.i64.wrap (v1+1)) (rowsSet v2 v1.toNat 0 [D.int .i64 n7])) none) none) (some ([(false,[.row 3 1 v2])])):=by kernel_rfl
theorem F57.run (k:Nat) (a0:Ovi.Rows):C (k+1) 57 [.d (.list 1 a0)]=ite' (((List.length a0):Int)==((List.length a0):Int)) (ite' (inM ((List.length a0):Int)) (F57.L3 k (C k) k a0 0 (za0 ((List.length a0):Int) [D.int .i64 0])) none) none:=(crun k 57 (by kernel_rfl) Tryz.func57 rfl).trans (by kernel_rfl)
noncomputable def F60.L4 (k:Nat) (call:zg) (n:Nat) (v0 v1:Ovi.Rows) (v2:Int):Option Res:=zp P hs call 60 k Tryz.f60 [1,1,0,1,0] [] n [(0,.d (.list 1 v0)),(1,.d (.list 1 v1)),(5,.d (.int .i64 v2))] []
theorem F60.L4.succ (k:Nat) (call:zg) (n:Nat) (v0 v1:Ovi.Rows) (v2:Int):F60.L4 k call (n+1) v0 v1 v2=ite' (decide (v2 < ((List.length v0):Int))) (ite' (inR v2 (List.length v0)) (zf (zm .i64 v0 v2.toNat 0) fun n8=>ite' (inR v2 (List.length v1)) (zf (zm .i64 v1 v2.toNat 0) fun n9=>ite' (n8 != n9) (some ([(false,[.d (.bool false)])])) (F60.L4 k call n v0 v1 (IntKind.i64.wrap (v2+1)))) none) none) (some ([(false,[.d (.bool true)])])):=by kernel_rfl
theorem F60.run (k:Nat) (a0 a1:Ovi.Rows):C (k+1) 60 [.d (.list 1 a0),.d (.list 1 a1)]=ite' (((List.length a0):Int) != ((List.length a1):Int)) (some ([(false,[.d (.bool false)])])) (F60.L4 k (C k) k a0 a1 0):=(crun k 60 (by kernel_rfl) Tryz.func60 rfl).trans (by kernel_rfl)
theorem F64.run (k:Nat) (a0_0 a0_1 a1 a2_0 a2_1:Ovi.Rows):C (k+1) 64 [.agg [.d (.list 3 a0_0),.d (.list 2 a0_1)],.d (.list 5 a1),.agg [.d (.list 1 a2_0),.d (.list 2 a2_1)]]=za ((C k) 140 [.agg [.d (.list 3 a0_0),.d (.list 2 a0_1)],.d (.list 5 a1)]) fun r7=>zc (resL 3 2 true 4 r7 0 0) fun l8=>zc (resL 2 2 true 4 r7 0 1) fun l9=>zf (resI .i64 2 true 4 r7 0 2) fun n10=>zc (resL 2 2 true 4 r7 0 3) fun l11=>zi (resB 2 false 1 r7 1 0) fun b12=>ite' (!b12) (some ([(false,[.nil]),(false,[.d (.bool false)])])) (ite' (n10 != 1) (some ([(false,[.nil]),(false,[.d (.bool false)])])) (za ((C k) 89 [.d (.list 3 a0_0),.agg [.d (.list 1 a2_0),.d (.list 2 a2_1)]]) fun r13=>zi (resB 1 false 1 r13 0 0) fun b14=>ite' (!b14) (some ([(false,[.nil]),(false,[.d (.bool false)])])) (za ((C k) 36 [.agg [.d (.list 3 l8),.d (.list 2 l9)],.agg [.d (.list 1 a2_0),.d (.list 2 a2_1)]]) fun r15=>zc (resL 1 1 false 1 r15 0 0) fun l16=>some ([(false,[.d (.list 1 l16)]),(false,[.d (.bool true)])])))):=(crun k 64 (by kernel_rfl) Tryz.func64 rfl).trans (by kernel_rfl)
theorem F65.run (k:Nat) (a0_0 a0_1 a1 a2_0 a2_1:Ovi.Rows):C (k+1) 65 [.agg [.d (.list 3 a0_0),.d (.list 2 a0_1)],.d (.list 5 a1),.agg [.d (.list 1 a2_0),.d (.list 2 a2_1)]]=za ((C k) 141 [.agg [.d (.list 3 a0_0),.d (.list 2 a0_1)],.d (.list 5 a1)]) fun r7=>zc (resL 3 2 true 4 r7 0 0) fun l8=>zc (resL 2 2 true 4 r7 0 1) fun l9=>zf (resI .i64 2 true 4 r7 0 2) fun n10=>zc (resL 2 2 true 4 r7 0 3) fun l11=>zi (resB 2 false 1 r7 1 0) fun b12=>ite' (!b12) (some ([(false,[.nil]),(false,[.d (.bool false)])])) (ite' (n10 != 1) (some ([(false,[.nil]),(false,[.d (.bool false)])])) (za ((C k) 95 [.d (.list 3 a0_0),.agg [.d (.list 1 a2_0),.d (.list 2 a2_1)]]) fun r13=>zi (resB 1 false 1 r13 0 0) fun b14=>ite' (!b14) (some ([(false,[.nil]),(false,[.d (.bool false)])])) (za ((C k) 37 [.agg [.d (.list 3 l8),.d (.list 2 l9)],.agg [.d (.list 1 a2_0),.d (.list 2 a2_1)]]) fun r15=>zc (resF 39 1 1 1 false 1 r15 0 0) fun l16=>ite' (depR 1 l16) (some ([(false,[.frow 39 1 1 l16]),(false,[.d (.bool true)])])) none))):=(crun k 65 (by kernel_rfl) Tryz.func65 rfl).trans (by kernel_rfl)
noncomputable def F66.L5 (k:Nat) (call:zg) (n:Nat) (v0:Ovi.Rows) (v1 v2:Int):Option Res:=zp P hs call 66 k Tryz.f66 [1,1,1,0,1,0] [] n [(0,.d (.list 2 v0)),(1,.d (.int .i64 v1)),(5,.d (.int .i64 v2))] []
theorem F66.L5.succ (k:Nat) (call:zg) (n:Nat) (v0:Ovi.Rows) (v1 v2:Int):F66.L5 k call (n+1) v0 v1 v2=ite' (decide (v2 < ((List.length v0):Int))) (ite' (inR v2 (List.length v0)) (zf (zm .i64 v0 v2.toNat 0) fun n8=>zc (zr 1 v0 v2.toNat 1) fun l9=>za (call 142 [.agg [.d (.int .i64 n8),.d (.list 1 l9)],.d (.int .i64 v1)]) fun r10=>zf (resI .i64 1 false 1 r10 0 0) fun n11=>ite' (decide (n11 < 0)) (some ([(false,[.d (.int .i64 (-1))])])) (F66.L5 k call n v0 n11 (IntKind.i64.wrap (v2+1)))) none) (some ([(false,[.d (.int .i64 v1)])])):=by kernel_rfl
theorem F66.run (k:Nat) (a0:Ovi.Rows) (a1:Int):C (k+1) 66 [.d (.list 2 a0),.d (.int .i64 a1)]=ite' (decide (IntKind.i64.wrap (a1 - ((List.length a0):Int)) < 0)) (some ([(false,[.d (.int .i64 (-1))])])) (F66.L5 k (C k) k a0 (IntKind.i64.wrap (a1 - ((List.length a0):Int))) 0):=(crun k 66 (by kernel_rfl) Tryz.func66 rfl).trans (by kernel_rfl)
noncomputable def F67.L2 (k:Nat) (call:zg) (n:Nat) (v0:Int) (v1 v2:Ovi.Rows):Option Res:=zp P hs call 67 k Tryz.f67 [1,0,1,0] [] n [(1,.var 64 0),(3,.d (.int .i64 v0))] [(64,Blk.var [.d (.list 3 v1),.d (.list 2 v2)])]
theorem F67.L2.succ (k:Nat) (call:zg) (n:Nat) (v0:Int) (v1 v2:Ovi.Rows):F67.L2 k call (n+1) v0 v1 v2=ite' (decide (v0 < ((List.length v2):Int))) (ite' (inR v0 (List.length v2)) (zf (zm .i64 v2 v0.toNat 0) fun n8=>zc (zr 1 v2 v0.toNat 1) fun l9=>za (call 143 [.d (.list 3 v1),.agg [.d (.int .i64 n8),.d (.list 1 l9)]]) fun r10=>zi (resB 1 false 1 r10 0 0) fun b11=>ite' (!b11) (some ([(false,[.d (.bool false)])])) (ite' (decide (v0 > 0)) (ite' (inR (IntKind.i64.wrap (v0 - 1)) (List.length v2)) (zf (zm .i64 v2 (IntKind.i64.wrap (v0 - 1)).toNat 0) fun n12=>zc (zr 1 v2 (IntKind.i64.wrap (v0 - 1)).toNat 1) fun l13=>za (call 144 [.agg [.d (.int .i64 n12),.d (.list 1 l13)],.agg [.d (.int .i64 n8),.d (.list 1 l9)]]) fun r14=>zf (resI .i64 1 false 1 r14 0 0) fun n15=>ite' (decide (n15 ≥ 0)) (some ([(false,[.d (.bool false)])])) (ite' (inR n8 (List.length v1)) (zi (zam v1 n8.toNat 2) fun b16=>ite' b16 (za (call 145 [.agg [.d (.int .i64 n8),.d (.list 1 l9)]]) fun r17=>zc (resL 1 1 false 1 r17 0 0) fun l18=>ite' (decide (((List.length l18):Int) > 0)) (some ([(false,[.d (.bool false)])])) (F67.L2 k call n (IntKind.i64.wrap (v0+1)) v1 v2)) (F67.L2 k call n (IntKind.i64.wrap (v0+1)) v1 v2)) none)) none) (ite' (inR n8 (List.length v1)) (zi (zam v1 n8.toNat 2) fun b12=>ite' b12 (za (call 145 [.agg [.d (.int .i64 n8),.d (.list 1 l9)]]) fun r13=>zc (resL 1 1 false 1 r13 0 0) fun l14=>ite' (decide (((List.length l14):Int) > 0)) (some ([(false,[.d (.bool false)])])) (F67.L2 k call n (IntKind.i64.wrap (v0+1)) v1 v2)) (F67.L2 k call n (IntKind.i64.wrap (v0+1)) v1 v2)) none))) none) (za (call 146 [.d (.list 3 v1)]) fun r8=>zi (resB 1 false 1 r8 0 0) fun b9=>ite' b9 (some ([(false,[.d (.bool (decide (((List.length v2):Int)≤30)))])])) (some ([(false,[.d (.bool false)])]))):=by kernel_rfl
theorem F67.run (k:Nat) (a0_0 a0_1:Ovi.Rows):C (k+1) 67 [.agg [.d (.list 3 a0_0),.d (.list 2 a0_1)]]=F67.L2 k (C k) k 0 a0_0 a0_1:=(crun k 67 (by kernel_rfl) Tryz.func67 rfl).trans (by kernel_rfl)
theorem F68.run (k:Nat) (a0 a1 a2:Int):C (k+1) 68 [.d (.int .i64 a0),.d (.int .i64 a1),.d (.int .i64 a2)]=ite' (decide (a0 ≥ a1)) (some ([(false,[.d (.bool (decide (a0≤a2)))])])) (some ([(false,[.d (.bool false)])])):=(crun k 68 (by kernel_rfl) Tryz.func68 rfl).trans (by kernel_rfl)
noncomputable def F69.L3 (k:Nat) (call:zg) (n:Nat) (v0:List (List D)) (v1:Int) (v2 v3:Ovi.Rows):Option Res:=zp P hs call 69 k Tryz.f69 [1,1,0,1,0] [] n [(1,.var 64 0),(3,.d (.list 1 v0)),(4,.d (.int .i64 v1))] [(64,Blk.var [.d (.list 3 v2),.d (.list 2 v3)])]
noncomputable def F69.L7 (k:Nat) (call:zg) (k3 n:Nat) (v0:List (List D)) (v1:Int) (v2:Ovi.Rows) (v3:Int) (v4 v5:Ovi.Rows):Option Res:=zp P hs call 69 k Tryz.f69 [1,1,0,1,0,0,1,0,0,1,1,0] [k3] n [(1,.var 64 0),(3,.d (.list 1 v0)),(4,.d (.int .i64 v1)),(5,.d (.list 1 v2)),(6,.d (.int .i64 v3))] [(64,Blk.var [.d (.list 3 v4),.d (.list 2 v5)])]
theorem F69.L3.succ (k:Nat) (call:zg) (n:Nat) (v0:List (List D)) (v1:Int) (v2 v3:Ovi.Rows):F69.L3 k call (n+1) v0 v1 v2 v3=ite' (decide (v1 < ((List.length v3):Int))) (ite' (inR v1 (List.length v3)) (zf (zm .i64 v3 v1.toNat 0) fun n9=>zc (zr 1 v3 v1.toNat 1) fun l10=>za (call 145 [.agg [.d (.int .i64 n9),.d (.list 1 l10)]]) fun r11=>zc (resL 1 1 false 1 r11 0 0) fun l12=>F69.L7 k call n k v0 v1 l12 0 v2 v3) none) (some ([(false,[.d (.list 1 v0)])])):=by kernel_rfl
theorem F69.L7.succ (k:Nat) (call:zg) (k3 n:Nat) (v0:List (List D)) (v1:Int) (v2:Ovi.Rows) (v3:Int) (v4 v5:Ovi.Rows):F69.L7 k call k3 (n+1) v0 v1 v2 v3 v4 v5=ite' (decide (v3 < ((List.length v2):Int))) (ite' (inR v3 (List.length v2)) (zf (zm .i64 v2 v3.toNat 0) fun n12=>za (call 147 [.d (.list 1 v0),.d (.int .i64 n12)]) fun r13=>zc (resL 1 1 false 1 r13 0 0) fun l14=>F69.L7 k call k3 n l14 v1 v2 (IntKind.i64.wrap (v3+1)) v4 v5) none) (F69.L3 k call k3 v0 (IntKind.i64.wrap (v1+1)) v4 v5):=by kernel_rfl
theorem F69.run (k:Nat) (a0_0 a0_1:Ovi.Rows):C (k+1) 69 [.agg [.d (.list 3 a0_0),.d (.list 2 a0_1)]]=F69.L3 k (C k) k [] 0 a0_0 a0_1:=(crun k 69 (by kernel_rfl) Tryz.func69 rfl).trans (by kernel_rfl)
theorem F70.run (k:Nat) (a0:Int):C (k+1) 70 [.d (.int .i64 a0)]=some ([(false,[.d (.int .i64 (IntKind.i64.wrap ((-1) - a0)))])]):=(crun k 70 (by kernel_rfl) Tryz.func70 rfl).trans (by kernel_rfl)
noncomputable def F71.L5 (k:Nat) (call:zg) (n:Nat) (v0:Int) (v1 v2 v3 v4:Ovi.Rows) (v5 v6:List (List D)) (v7:Ovi.Rows) (v8:List (List D)):Option Res:=zp P hs call 71 k Tryz.f71 [1,1,1,0,1,0] [] n [(2,.var 128 0),(3,.var 192 0),(4,.var 256 0),(6,.var 384 0),(7,.d (.int .i64 v0))] [(128,Blk.var [.d (.list 1 v1),.d (.list 1 v2)]),(192,Blk.var [.d (.list 3 v3),.d (.list 2 v4)]),(256,Blk.var [AV.own 200064 0,AV.own 200065 0]),(200064,Blk.arr 133 3 0 v5 (0,0,0)),(200065,Blk.arr 118 2 0 v6 (1,0,0)),(384,Blk.var [.d (.list 3 v7),.d (.list 2 v8)])]
theorem F71.L5.succ (k:Nat) (call:zg) (n:Nat) (v0:Int) (v1 v2 v3 v4:Ovi.Rows) (v5 v6:List (List D)) (v7:Ovi.Rows) (v8:List (List D)):F71.L5 k call (n+1) v0 v1 v2 v3 v4 v5 v6 v7 v8=ite' (decide (v0 < ((List.length v4):Int))) (ite' (inR v0 (List.length v4)) (zf (zm .i64 v4 v0.toNat 0) fun n16=>zc (zr 1 v4 v0.toNat 1) fun l17=>za (call 149 [.agg [.d (.list 1 v1),.d (.list 1 v2)],.agg [.d (.int .i64 n16),.d (.list 1 l17)]]) fun r18=>zf (resI .i64 1 true 2 r18 0 0) fun n19=>zc (resO 3 1 1 true 2 r18 0 1) fun l20=>za (call 91 [.agg [.d (.list 3 v7),.d (.list 2 v8)],.agg [.d (.int .i64 n19),.d (.list 1 l20)]]) fun r21=>zc (resL 3 1 true 2 r21 0 0) fun l22=>zc (resL 2 1 true 2 r21 0 1) fun l23=>F71.L5 k call n (IntKind.i64.wrap (v0+1)) v1 v2 v3 v4 v5 v6 l22 l23) none) (za (call 92 [.agg [.d (.list 3 v7),.d (.list 2 v8)]]) fun r16=>zc (resO 133 3 1 true 2 r16 0 0) fun l17=>zc (resF 118 2 1 1 true 2 r16 0 1) fun l18=>some ([(true,[.row 133 3 l17,.frow 118 2 1 l18]),(false,[.d (.bool true)])])):=by kernel_rfl
theorem F71.run (k:Nat) (a0_0 a0_1 a1_0 a1_1:Ovi.Rows):C (k+1) 71 [.agg [.d (.list 1 a0_0),.d (.list 1 a0_1)],.agg [.d (.list 3 a1_0),.d (.list 2 a1_1)]]=za ((C k) 148 [.agg [.d (.list 1 a0_0),.d (.list 1 a0_1)]]) fun r6=>zi (resB 1 false 1 r6 0 0) fun b7=>ite' (!b7) (some ([(true,[.nil,.nil]),(false,[.d (.bool false)])])) (za ((C k) 67 [.agg [.d (.list 3 a1_0),.d (.list 2 a1_1)]]) fun r8=>zi (resB 1 false 1 r8 0 0) fun b9=>ite' (!b9) (some ([(true,[.nil,.nil]),(false,[.d (.bool false)])])) (ite' (fits (List.length a1_0)) (F71.L5 k (C k) k 0 a0_0 a0_1 a1_0 a1_1 [] [] a1_0 []) none)):=(crun k 71 (by kernel_rfl) Tryz.func71 rfl).trans (by kernel_rfl)
noncomputable def F72.L3 (k:Nat) (call:zg) (n:Nat) (v0:Ovi.Rows) (v1:Int) (v2:Ovi.Rows):Option Res:=zp P hs call 72 k Tryz.f72 [1,1,0,1,0] [] n [(0,.d (.list 2 v0)),(3,AV.own 100003 0),(4,.d (.int .i64 v1))] [(100003,Blk.arr 118 2 0 v2 (1,0,0))]
theorem F72.L3.succ (k:Nat) (call:zg) (n:Nat) (v0:Ovi.Rows) (v1:Int) (v2:Ovi.Rows):F72.L3 k call (n+1) v0 v1 v2=ite' (decide (v1 < ((List.length v0):Int))) (ite' (inR v1 (List.length v0)) (zf (zm .i64 v0 v1.toNat 0) fun n7=>zc (zr 1 v0 v1.toNat 1) fun l8=>za (call 150 [.agg [.d (.int .i64 n7),.d (.list 1 l8)]]) fun r9=>zf (resI .i64 1 true 2 r9 0 0) fun n10=>zc (resO 3 1 1 true 2 r9 0 1) fun l11=>ite' (inR v1 (List.length v2)) (F72.L3 k call n v0 (IntKind.i64.wrap (v1+1)) (rowsSet v2 v1.toNat 0 [D.int .i64 n10,D.list 1 l11])) none) none) (some ([(false,[.frow 118 2 1 v2])])):=by kernel_rfl
theorem F72.run (k:Nat) (a0:Ovi.Rows):C (k+1) 72 [.d (.list 2 a0)]=ite' (((List.length a0):Int)==((List.length a0):Int)) (ite' (inM ((List.length a0):Int)) (F72.L3 k (C k) k a0 0 (za0 ((List.length a0):Int) [D.int .i64 0,D.list 1 []])) none) none:=(crun k 72 (by kernel_rfl) Tryz.func72 rfl).trans (by kernel_rfl)
theorem F73.run (k:Nat) (a0 a1 a2:Int):C (k+1) 73 [.d (.int .i64 a0),.d (.int .i64 a1),.d (.int .i64 a2)]=ite' (decide (a1≤a0)) (some ([(false,[.d (.bool (decide (a0≤a2)))])])) (some ([(false,[.d (.bool false)])])):=(crun k 73 (by kernel_rfl) Tryz.func73 rfl).trans (by kernel_rfl)
noncomputable def F76.L4 (k:Nat) (call:zg) (n:Nat) (v0 v1:Ovi.Rows) (v2:Int):Option Res:=zp P hs call 76 k Tryz.f76 [1,1,0,1,0] [] n [(0,.d (.list 2 v0)),(1,.d (.list 2 v1)),(5,.d (.int .i64 v2))] []
theorem F76.L4.succ (k:Nat) (call:zg) (n:Nat) (v0 v1:Ovi.Rows) (v2:Int):F76.L4 k call (n+1) v0 v1 v2=ite' (decide (v2 < ((List.length v0):Int))) (ite' (inR v2 (List.length v0)) (zf (zm .i64 v0 v2.toNat 0) fun n8=>zc (zr 1 v0 v2.toNat 1) fun l9=>ite' (inR v2 (List.length v1)) (zf (zm .i64 v1 v2.toNat 0) fun n10=>zc (zr 1 v1 v2.toNat 1) fun l11=>za (call 153 [.agg [.d (.int .i64 n8),.d (.list 1 l9)],.agg [.d (.int .i64 n10),.d (.list 1 l11)]]) fun r12=>zi (resB 1 false 1 r12 0 0) fun b13=>ite' (!b13) (some ([(false,[.d (.bool false)])])) (F76.L4 k call n v0 v1 (IntKind.i64.wrap (v2+1)))) none) none) (some ([(false,[.d (.bool true)])])):=by kernel_rfl
theorem F76.run (k:Nat) (a0 a1:Ovi.Rows):C (k+1) 76 [.d (.list 2 a0),.d (.list 2 a1)]=ite' (((List.length a0):Int) != ((List.length a1):Int)) (some ([(false,[.d (.bool false)])])) (F76.L4 k (C k) k a0 a1 0):=(crun k 76 (by kernel_rfl) Tryz.func76 rfl).trans (by kernel_rfl)
noncomputable def F78.L2 (k:Nat) (call:zg) (n:Nat) (v0:Ovi.Rows) (v1 v2:Int):Option Res:=zp P hs call 78 k Tryz.f78 [1,0,1,0] [] n [(0,.d (.list 3 v0)),(1,.d (.int .i64 v1)),(5,.d (.int .i64 v2))] []
theorem F78.L2.succ (k:Nat) (call:zg) (n:Nat) (v0:Ovi.Rows) (v1 v2:Int):F78.L2 k call (n+1) v0 v1 v2=ite' (decide (v2 < ((List.length v0):Int))) (ite' (inR v2 (List.length v0)) (zbg (zbh v0 v2.toNat 0) fun s8=>za (call 103 [.d (.int .i64 v1)]) fun r9=>zbg (resS 1 false 1 r9 0 0) fun s10=>ite' (!s8==s10) (some ([(false,[.d (.int .i64 (-1))])])) (ite' (inR v2 (List.length v0)) (zf (zm .i64 v0 v2.toNat 1) fun n11=>ite' (n11 != IntKind.i64.wrap (v1+1)) (some ([(false,[.d (.int .i64 (-1))])])) (ite' (inR v2 (List.length v0)) (zi (zam v0 v2.toNat 2) fun b12=>ite' (!b12==((IntKind.i64.wrap (IntKind.i64.wrap (v1+1)+1)).tmod 3==0)) (some ([(false,[.d (.int .i64 (-1))])])) (F78.L2 k call n v0 (IntKind.i64.wrap (IntKind.i64.wrap (IntKind.i64.wrap (v1+1)+1)+1)) (IntKind.i64.wrap (v2+1)))) none)) none)) none) (some ([(false,[.d (.int .i64 v1)])])):=by kernel_rfl
theorem F78.run (k:Nat) (a0:Ovi.Rows) (a1:Int):C (k+1) 78 [.d (.list 3 a0),.d (.int .i64 a1)]=F78.L2 k (C k) k a0 a1 0:=(crun k 78 (by kernel_rfl) Tryz.func78 rfl).trans (by kernel_rfl)
noncomputable def F79.L2 (k:Nat) (call:zg) (n:Nat) (v0:Ovi.Rows) (v1 v2:Int):Option Res:=zp P hs call 79 k Tryz.f79 [1,0,1,0] [] n [(0,.d (.list 2 v0)),(1,.d (.int .i64 v1)),(5,.d (.int .i64 v2))] []
theorem F79.L2.succ (k:Nat) (call:zg) (n:Nat) (v0:Ovi.Rows) (v1 v2:Int):F79.L2 k call (n+1) v0 v1 v2=ite' (decide (v2 < ((List.length v0):Int))) (ite' (inR v2 (List.length v0)) (zf (zm .i64 v0 v2.toNat 0) fun n8=>ite' (n8 != v1) (some ([(false,[.d (.int .i64 (-1))])])) (ite' (inR v2 (List.length v0)) (zc (zr 1 v0 v2.toNat 1) fun l9=>za (call 109 [.d (.list 1 l9),.d (.int .i64 (IntKind.i64.wrap (v1+1)))]) fun r10=>zf (resI .i64 1 false 1 r10 0 0) fun n11=>ite' (decide (n11 < 0)) (some ([(false,[.d (.int .i64 (-1))])])) (F79.L2 k call n v0 n11 (IntKind.i64.wrap (v2+1)))) none)) none) (some ([(false,[.d (.int .i64 v1)])])):=by kernel_rfl
theorem F79.run (k:Nat) (a0:Ovi.Rows) (a1:Int):C (k+1) 79 [.d (.list 2 a0),.d (.int .i64 a1)]=F79.L2 k (C k) k a0 a1 0:=(crun k 79 (by kernel_rfl) Tryz.func79 rfl).trans (by kernel_rfl)
theorem F80.run (k:Nat) (a0:Int):C (k+1) 80 [.d (.int .i64 a0)]=ite' (decide (a0 ≥ 0)) (some ([(false,[.d (.int .i64 0)]),(false,[.d (.bool false)])])) (za ((C k) 68 [.d (.int .i64 (IntKind.i64.wrap ((-1) - a0))),.d (.int .i64 0),.d (.int .i64 39)]) fun r3=>zi (resB 1 false 1 r3 0 0) fun b4=>ite' (!b4) (some ([(false,[.d (.int .i64 0)]),(false,[.d (.bool false)])])) (some ([(false,[.d (.int .i64 (IntKind.i64.wrap ((-1) - a0)))]),(false,[.d (.bool true)])]))):=(crun k 80 (by kernel_rfl) Tryz.func80 rfl).trans (by kernel_rfl)
noncomputable def F81.L2 (k:Nat) (call:zg) (n:Nat) (v0:Ovi.Rows) (v1 v2:Int):Option Res:=zp P hs call 81 k Tryz.f81 [1,0,1,0] [] n [(0,.d (.list 1 v0)),(1,.d (.int .i64 v1)),(5,.d (.int .i64 v2))] []
theorem F81.L2.succ (k:Nat) (call:zg) (n:Nat) (v0:Ovi.Rows) (v1 v2:Int):F81.L2 k call (n+1) v0 v1 v2=ite' (decide (v2 < ((List.length v0):Int))) (ite' (inR v2 (List.length v0)) (zf (zm .i64 v0 v2.toNat 0) fun n8=>ite' (n8==v1) (some ([(false,[.d (.bool true)])])) (F81.L2 k call n v0 v1 (IntKind.i64.wrap (v2+1)))) none) (some ([(false,[.d (.bool false)])])):=by kernel_rfl
theorem F81.run (k:Nat) (a0:Ovi.Rows) (a1:Int):C (k+1) 81 [.d (.list 1 a0),.d (.int .i64 a1)]=F81.L2 k (C k) k a0 a1 0:=(crun k 81 (by kernel_rfl) Tryz.func81 rfl).trans (by kernel_rfl)
theorem F82.run (k:Nat) (a0:Int):C (k+1) 82 [.d (.int .i64 a0)]=za ((C k) 73 [.d (.int .i64 (IntKind.i64.wrap ((-1) - a0))),.d (.int .i64 0),.d (.int .i64 39)]) fun r3=>zi (resB 1 false 1 r3 0 0) fun b4=>ite' (!b4) (some ([(false,[.d (.int .i64 0)]),(false,[.d (.bool false)])])) (some ([(false,[.d (.int .i64 (IntKind.i64.wrap ((-1) - a0)))]),(false,[.d (.bool true)])])):=(crun k 82 (by kernel_rfl) Tryz.func82 rfl).trans (by kernel_rfl)
theorem F83.run (k:Nat) (a0:Ovi.Rows) (a1:Int):C (k+1) 83 [.d (.list 1 a0),.d (.int .i64 a1)]=za ((C k) 85 [.d (.list 1 a0),.d (.int .i64 a1)]) fun r4=>zf (resI .i64 1 false 1 r4 0 0) fun n5=>some ([(false,[.d (.bool (decide (n5 ≥ 0)))])]):=(crun k 83 (by kernel_rfl) Tryz.func83 rfl).trans (by kernel_rfl)
noncomputable def F85.L2 (k:Nat) (call:zg) (n:Nat) (v0:Ovi.Rows) (v1 v2 v3:Int):Option Res:=zp P hs call 85 k Tryz.f85 [1,0,1,0] [] n [(0,.d (.list 1 v0)),(1,.d (.int .i64 v1)),(7,.d (.int .i64 v2)),(8,.d (.int .i64 v3))] []
theorem F85.L2.succ (k:Nat) (call:zg) (n:Nat) (v0:Ovi.Rows) (v1 v2 v3:Int):F85.L2 k call (n+1) v0 v1 v2 v3=ite' (decide (v3 < v2)) (ite' (inR v3 (List.length v0)) (zf (zm .i64 v0 v3.toNat 0) fun n9=>ite' (v1==n9) (some ([(false,[.d (.int .i64 v3)])])) (F85.L2 k call n v0 v1 v2 (IntKind.i64.wrap (v3+1)))) none) (some ([(false,[.d (.int .i64 (-1))])])):=by kernel_rfl
theorem F85.run (k:Nat) (a0:Ovi.Rows) (a1:Int):C (k+1) 85 [.d (.list 1 a0),.d (.int .i64 a1)]=F85.L2 k (C k) k a0 a1 (((List.length a0):Int)) 0:=(crun k 85 (by kernel_rfl) Tryz.func85 rfl).trans (by kernel_rfl)
theorem F86.run (k:Nat) (a0_0:List UInt8) (a0_1:Int) (a0_2:Bool) (a1:Int):C (k+1) 86 [.agg [.d (.str a0_0),.d (.int .i64 a0_1),.d (.bool a0_2)],.d (.int .i64 a1)]=ite' (decide (IntKind.i64.wrap (a1 - (↑a0_0.length:Int)) < 0)) (some ([(false,[.d (.int .i64 (-1))])])) (some ([(false,[.d (.int .i64 (IntKind.i64.wrap (a1 - (↑a0_0.length:Int))))])])):=(crun k 86 (by kernel_rfl) Tryz.func86 rfl).trans (by kernel_rfl)
theorem F87.run (k:Nat) (a0:Ovi.Rows) (a1:Int):C (k+1) 87 [.d (.list 1 a0),.d (.int .i64 a1)]=ite' (decide (IntKind.i64.wrap (a1 - ((List.length a0):Int)) < 0)) (some ([(false,[.d (.int .i64 (-1))])])) (some ([(false,[.d (.int .i64 (IntKind.i64.wrap (a1 - ((List.length a0):Int))))])])):=(crun k 87 (by kernel_rfl) Tryz.func87 rfl).trans (by kernel_rfl)
noncomputable def F88.L5 (k:Nat) (call:zg) (n:Nat) (v0:Ovi.Rows) (v1 v2:Int):Option Res:=zp P hs call 88 k Tryz.f88 [1,1,1,0,1,0] [] n [(0,.d (.list 2 v0)),(1,.d (.int .i64 v1)),(5,.d (.int .i64 v2))] []
theorem F88.L5.succ (k:Nat) (call:zg) (n:Nat) (v0:Ovi.Rows) (v1 v2:Int):F88.L5 k call (n+1) v0 v1 v2=ite' (decide (v2 < ((List.length v0):Int))) (ite' (inR v2 (List.length v0)) (zf (zm .i64 v0 v2.toNat 0) fun n8=>zc (zr 1 v0 v2.toNat 1) fun l9=>za (call 154 [.agg [.d (.int .i64 n8),.d (.list 1 l9)],.d (.int .i64 v1)]) fun r10=>zf (resI .i64 1 false 1 r10 0 0) fun n11=>ite' (decide (n11 < 0)) (some ([(false,[.d (.int .i64 (-1))])])) (F88.L5 k call n v0 n11 (IntKind.i64.wrap (v2+1)))) none) (some ([(false,[.d (.int .i64 v1)])])):=by kernel_rfl
theorem F88.run (k:Nat) (a0:Ovi.Rows) (a1:Int):C (k+1) 88 [.d (.list 2 a0),.d (.int .i64 a1)]=ite' (decide (IntKind.i64.wrap (a1 - ((List.length a0):Int)) < 0)) (some ([(false,[.d (.int .i64 (-1))])])) (F88.L5 k (C k) k a0 (IntKind.i64.wrap (a1 - ((List.length a0):Int))) 0):=(crun k 88 (by kernel_rfl) Tryz.func88 rfl).trans (by kernel_rfl)
noncomputable def F89.L3 (k:Nat) (call:zg) (n:Nat) (v0 v1:Ovi.Rows) (v2:Int) (v3 v4:Ovi.Rows):Option Res:=zp P hs call 89 k Tryz.f89 [1,1,0,1,0] [] n [(0,.d (.list 3 v0)),(3,.var 192 0),(5,.d (.list 1 v1)),(6,.d (.int .i64 v2))] [(192,Blk.var [.d (.list 1 v3),.d (.list 2 v4)])]
noncomputable def F89.L8 (k:Nat) (call:zg) (n:Nat) (v0:Ovi.Rows) (v1:Int) (v2 v3:Ovi.Rows):Option Res:=zp P hs call 89 k Tryz.f89 [1,1,1,0,1,0] [] n [(3,.var 192 0),(5,.d (.list 1 v0)),(7,.d (.int .i64 v1))] [(192,Blk.var [.d (.list 1 v2),.d (.list 2 v3)])]
theorem F89.L3.succ (k:Nat) (call:zg) (n:Nat) (v0 v1:Ovi.Rows) (v2:Int) (v3 v4:Ovi.Rows):F89.L3 k call (n+1) v0 v1 v2 v3 v4=ite' (decide (v2 < ((List.length v4):Int))) (ite' (inR v2 (List.length v4)) (zf (zm .i64 v4 v2.toNat 0) fun n11=>zc (zr 1 v4 v2.toNat 1) fun l12=>za (call 156 [.d (.list 3 v0),.agg [.d (.int .i64 n11),.d (.list 1 l12)]]) fun r13=>zi (resB 1 false 1 r13 0 0) fun b14=>ite' (!b14) (some ([(false,[.d (.bool false)])])) (F89.L3 k call n v0 v1 (IntKind.i64.wrap (v2+1)) v3 v4)) none) (F89.L8 k call k v1 0 v3 v4):=by kernel_rfl
theorem F89.L8.succ (k:Nat) (call:zg) (n:Nat) (v0:Ovi.Rows) (v1:Int) (v2 v3:Ovi.Rows):F89.L8 k call (n+1) v0 v1 v2 v3=ite' (decide (v1 < ((List.length v2):Int))) (ite' (inR v1 (List.length v2)) (zf (zm .i64 v2 v1.toNat 0) fun n10=>za (call 81 [.d (.list 1 v0),.d (.int .i64 n10)]) fun r11=>zi (resB 1 false 1 r11 0 0) fun b12=>ite' (!b12) (some ([(false,[.d (.bool false)])])) (F89.L8 k call n v0 (IntKind.i64.wrap (v1+1)) v2 v3)) none) (za (call 68 [.d (.int .i64 ((List.length v3):Int)),.d (.int .i64 1),.d (.int .i64 3)]) fun r10=>zi (resB 1 false 1 r10 0 0) fun b11=>ite' b11 (some ([(false,[.d (.bool (decide (((List.length v2):Int)≤3)))])])) (some ([(false,[.d (.bool false)])]))):=by kernel_rfl
theorem F89.run (k:Nat) (a0 a1_0 a1_1:Ovi.Rows):C (k+1) 89 [.d (.list 3 a0),.agg [.d (.list 1 a1_0),.d (.list 2 a1_1)]]=za ((C k) 155 [.d (.list 2 a1_1)]) fun r5=>zc (resL 1 1 false 1 r5 0 0) fun l6=>F89.L3 k (C k) k a0 l6 0 a1_0 a1_1:=(crun k 89 (by kernel_rfl) Tryz.func89 rfl).trans (by kernel_rfl)
noncomputable def F90.L3 (k:Nat) (call:zg) (n:Nat) (v0:Ovi.Rows) (v1 v2:Int) (v3:Ovi.Rows) (v4:Int) (v5:List (List D)) (v6:Int) (v7:List (List D)):Option Res:=zp P hs call 90 k Tryz.f90 [1,1,0,1,0] [] n [(1,.d (.list 1 v0)),(2,.var 128 0),(4,.var 256 0),(6,.var 384 0),(7,.d (.int .i64 v1))] [(128,Blk.var [.d (.int .i64 v2),.d (.list 1 v3)]),(256,Blk.var [.d (.int .i64 v4),AV.own 200065 0]),(200065,Blk.arr 3 1 0 v5 (0,0,0)),(384,Blk.var [.d (.int .i64 v6),AV.own 200097 0]),(200097,Blk.arr 3 1 0 v7 (0,0,0))]
theorem F90.L3.succ (k:Nat) (call:zg) (n:Nat) (v0:Ovi.Rows) (v1 v2:Int) (v3:Ovi.Rows) (v4:Int) (v5:List (List D)) (v6:Int) (v7:List (List D)):F90.L3 k call (n+1) v0 v1 v2 v3 v4 v5 v6 v7=ite' (decide (v1 < ((List.length v3):Int))) (ite' (inR v1 (List.length v3)) (zf (zm .i64 v3 v1.toNat 0) fun n14=>ite' (inR v1 (List.length v3)) (zf (zm .i64 v3 v1.toNat 0) fun n15=>ite' (decide (n15 ≥ 0)) (ite' (inR v1 (List.length v3)) (zf (zm .i64 v3 v1.toNat 0) fun n16=>ite' (decide (n16 ≥ ((List.length v0):Int))) (some ([(true,[.d (.int .i64 0),.nil]),(false,[.d (.bool false)])])) (ite' (inR v1 (List.length v3)) (zf (zm .i64 v3 v1.toNat 0) fun n17=>ite' (inR n17 (List.length v0)) (zf (zm .i64 v0 n17.toNat 0) fun n18=>za (call 157 [.d (.int .i64 n18)]) fun r19=>zi (resB 1 false 1 r19 0 0) fun b20=>ite' (!b20) (some ([(true,[.d (.int .i64 0),.nil]),(false,[.d (.bool false)])])) (ite' (inR v1 (List.length v3)) (zf (zm .i64 v3 v1.toNat 0) fun n21=>ite' (decide (n21 < 0)) (ite' (decide (n18 < 0)) (some ([(true,[.d (.int .i64 0),.nil]),(false,[.d (.bool false)])])) (ite' (fits (v7.length+[[D.int .i64 n18]].length)) (F90.L3 k call n v0 (IntKind.i64.wrap (v1+1)) v2 v3 v4 v5 v6 (v7++[[D.int .i64 n18]])) none)) (ite' (fits (v7.length+[[D.int .i64 n18]].length)) (F90.L3 k call n v0 (IntKind.i64.wrap (v1+1)) v2 v3 v4 v5 v6 (v7++[[D.int .i64 n18]])) none)) none)) none) none)) none) (za (call 157 [.d (.int .i64 (IntKind.i64.wrap ((-1) - n14)))]) fun r16=>zi (resB 1 false 1 r16 0 0) fun b17=>ite' (!b17) (some ([(true,[.d (.int .i64 0),.nil]),(false,[.d (.bool false)])])) (ite' (inR v1 (List.length v3)) (zf (zm .i64 v3 v1.toNat 0) fun n18=>ite' (decide (n18 < 0)) (ite' (decide (IntKind.i64.wrap ((-1) - n14) < 0)) (some ([(true,[.d (.int .i64 0),.nil]),(false,[.d (.bool false)])])) (ite' (fits (v7.length+[[D.int .i64 (IntKind.i64.wrap ((-1) - n14))]].length)) (F90.L3 k call n v0 (IntKind.i64.wrap (v1+1)) v2 v3 v4 v5 v6 (v7++[[D.int .i64 (IntKind.i64.wrap ((-1) - n14))]])) none)) (ite' (fits (v7.length+[[D.int .i64 (IntKind.i64.wrap ((-1) - n14))]].length)) (F90.L3 k call n v0 (IntKind.i64.wrap (v1+1)) v2 v3 v4 v5 v6 (v7++[[D.int .i64 (IntKind.i64.wrap ((-1) - n14))]])) none)) none))) none) none) (some ([(true,[.d (.int .i64 v6),.row 3 1 v7]),(false,[.d (.bool true)])])):=by kernel_rfl
theorem F90.run (k:Nat) (a0_0:Int) (a0_1 a1:Ovi.Rows):C (k+1) 90 [.agg [.d (.int .i64 a0_0),.d (.list 1 a0_1)],.d (.list 1 a1)]=F90.L3 k (C k) k a1 0 a0_0 a0_1 0 [] a0_0 []:=(crun k 90 (by kernel_rfl) Tryz.func90 rfl).trans (by kernel_rfl)
noncomputable def F91.L4 (k:Nat) (call:zg) (n:Nat) (v0:Int) (v1 v2:Ovi.Rows) (v3:Int) (v4:Ovi.Rows) (v5 v6:List (List D)):Option Res:=zp P hs call 91 k Tryz.f91 [1,1,1,0,0] [] n [(2,.var 128 0),(3,.var 192 0),(4,.var 256 0),(5,.d (.int .i64 v0))] [(128,Blk.var [.d (.list 3 v1),.d (.list 2 v2)]),(192,Blk.var [.d (.int .i64 v3),.d (.list 1 v4)]),(256,Blk.var [.d (.list 3 v5),.d (.list 2 v6)])]
theorem F91.L4.succ (k:Nat) (call:zg) (n:Nat) (v0:Int) (v1 v2:Ovi.Rows) (v3:Int) (v4:Ovi.Rows) (v5 v6:List (List D)):F91.L4 k call (n+1) v0 v1 v2 v3 v4 v5 v6=ite' (decide (v0 < ((List.length v2):Int))) (ite' (inR v0 (List.length v2)) (zf (zm .i64 v2 v0.toNat 0) fun n14=>zc (zr 1 v2 v0.toNat 1) fun l15=>za (call 144 [.agg [.d (.int .i64 n14),.d (.list 1 l15)],.agg [.d (.int .i64 v3),.d (.list 1 v4)]]) fun r16=>zf (resI .i64 1 false 1 r16 0 0) fun n17=>ite' (decide (n17 < 0)) (F91.L4 k call n (IntKind.i64.wrap (v0+1)) v1 v2 v3 v4 v5 v6) (za (call 159 [.agg [.d (.int .i64 v3),.d (.list 1 v4)]]) fun r18=>zf (resI .i64 1 true 2 r18 0 0) fun n19=>zc (resO 3 1 1 true 2 r18 0 1) fun l20=>ite' (inS v0 ((List.length v2):Int) (List.length v2)) (ite' (fits ([[D.int .i64 n19,D.list 1 l20]].length+(List.drop v0.toNat v2).length)) (ite' (inS 0 v0 (List.length v2)) (ite' (fits (List.take v0.toNat v2).length) (ite' (fits ((List.take v0.toNat v2).length+List.length ([[D.int .i64 n19,D.list 1 l20]]++List.drop v0.toNat v2))) (some ([(true,[.d (.list 3 v1),.row 118 2 (List.take v0.toNat v2++([[D.int .i64 n19,D.list 1 l20]]++List.drop v0.toNat v2))])])) none) none) none) none) none)) none) (za (call 159 [.agg [.d (.int .i64 v3),.d (.list 1 v4)]]) fun r14=>zf (resI .i64 1 true 2 r14 0 0) fun n15=>zc (resO 3 1 1 true 2 r14 0 1) fun l16=>ite' (inS v0 ((List.length v2):Int) (List.length v2)) (ite' (fits ([[D.int .i64 n15,D.list 1 l16]].length+(List.drop v0.toNat v2).length)) (ite' (inS 0 v0 (List.length v2)) (ite' (fits (List.take v0.toNat v2).length) (ite' (fits ((List.take v0.toNat v2).length+List.length ([[D.int .i64 n15,D.list 1 l16]]++List.drop v0.toNat v2))) (some ([(true,[.d (.list 3 v1),.row 118 2 (List.take v0.toNat v2++([[D.int .i64 n15,D.list 1 l16]]++List.drop v0.toNat v2))])])) none) none) none) none) none):=by kernel_rfl
theorem F91.run (k:Nat) (a0_0 a0_1:Ovi.Rows) (a1_0:Int) (a1_1:Ovi.Rows):C (k+1) 91 [.agg [.d (.list 3 a0_0),.d (.list 2 a0_1)],.agg [.d (.int .i64 a1_0),.d (.list 1 a1_1)]]=za ((C k) 158 [.agg [.d (.list 3 a0_0),.d (.list 2 a0_1)],.agg [.d (.int .i64 a1_0),.d (.list 1 a1_1)]]) fun r6=>zf (resI .i64 1 false 1 r6 0 0) fun n7=>ite' (decide (n7 ≥ 0)) (some ([(true,[.d (.list 3 a0_0),.d (.list 2 a0_1)])])) (F91.L4 k (C k) k 0 a0_0 a0_1 a1_0 a1_1 [] []):=(crun k 91 (by kernel_rfl) Tryz.func91 rfl).trans (by kernel_rfl)
noncomputable def F92.L3 (k:Nat) (call:zg) (n:Nat) (v0:Int) (v1 v2:Ovi.Rows) (v3 v4:List (List D)) (v5:Ovi.Rows) (v6:List (List D)):Option Res:=zp P hs call 92 k Tryz.f92 [1,1,0,1,0] [] n [(1,.var 64 0),(2,.var 128 0),(3,.var 192 0),(4,.d (.int .i64 v0))] [(64,Blk.var [.d (.list 3 v1),.d (.list 2 v2)]),(128,Blk.var [AV.own 200032 0,AV.own 200033 0]),(200032,Blk.arr 133 3 0 v3 (0,0,0)),(200033,Blk.arr 118 2 0 v4 (1,0,0)),(192,Blk.var [AV.own 200048 0,AV.own 200049 0]),(200048,Blk.arr 133 3 0 v5 (0,0,0)),(200049,Blk.arr 118 2 0 v6 (1,0,0))]
theorem F92.L3.succ (k:Nat) (call:zg) (n:Nat) (v0:Int) (v1 v2:Ovi.Rows) (v3 v4:List (List D)) (v5:Ovi.Rows) (v6:List (List D)):F92.L3 k call (n+1) v0 v1 v2 v3 v4 v5 v6=ite' (decide (v0 < ((List.length v2):Int))) (ite' (inR v0 (List.length v2)) (zf (zm .i64 v2 v0.toNat 0) fun n12=>zc (zr 1 v2 v0.toNat 1) fun l13=>za (call 159 [.agg [.d (.int .i64 n12),.d (.list 1 l13)]]) fun r14=>zf (resI .i64 1 true 2 r14 0 0) fun n15=>zc (resO 3 1 1 true 2 r14 0 1) fun l16=>ite' (fits (v6.length+[[D.int .i64 n15,D.list 1 l16]].length)) (F92.L3 k call n (IntKind.i64.wrap (v0+1)) v1 v2 v3 v4 v5 (v6++[[D.int .i64 n15,D.list 1 l16]])) none) none) (some ([(true,[.row 133 3 v5,.frow 118 2 1 v6])])):=by kernel_rfl
theorem F92.run (k:Nat) (a0_0 a0_1:Ovi.Rows):C (k+1) 92 [.agg [.d (.list 3 a0_0),.d (.list 2 a0_1)]]=ite' (fits (List.length a0_0)) (F92.L3 k (C k) k 0 a0_0 a0_1 [] [] a0_0 []) none:=(crun k 92 (by kernel_rfl) Tryz.func92 rfl).trans (by kernel_rfl)
theorem F93.run (k:Nat) (a0_0:List UInt8) (a0_1:Int) (a0_2:Bool):C (k+1) 93 [.agg [.d (.str a0_0),.d (.int .i64 a0_1),.d (.bool a0_2)]]=some ([(true,[.d (.str a0_0),.d (.int .i64 a0_1),.d (.bool a0_2)])]):=(crun k 93 (by kernel_rfl) Tryz.func93 rfl).trans (by kernel_rfl)
noncomputable def F94.L3 (k:Nat) (call:zg) (n:Nat) (v0:Ovi.Rows) (v1:Int) (v2:Ovi.Rows):Option Res:=zp P hs call 94 k Tryz.f94 [1,1,0,1,0] [] n [(0,.d (.list 2 v0)),(3,AV.own 100003 0),(4,.d (.int .i64 v1))] [(100003,Blk.arr 130 2 0 v2 (1,0,0))]
theorem F94.L3.succ (k:Nat) (call:zg) (n:Nat) (v0:Ovi.Rows) (v1:Int) (v2:Ovi.Rows):F94.L3 k call (n+1) v0 v1 v2=ite' (decide (v1 < ((List.length v0):Int))) (ite' (inR v1 (List.length v0)) (zf (zm .i64 v0 v1.toNat 0) fun n7=>zc (zr 1 v0 v1.toNat 1) fun l8=>za (call 160 [.agg [.d (.int .i64 n7),.d (.list 1 l8)]]) fun r9=>zf (resI .i64 1 true 2 r9 0 0) fun n10=>zc (resO 3 1 1 true 2 r9 0 1) fun l11=>ite' (inR v1 (List.length v2)) (F94.L3 k call n v0 (IntKind.i64.wrap (v1+1)) (rowsSet v2 v1.toNat 0 [D.int .i64 n10,D.list 1 l11])) none) none) (some ([(false,[.frow 130 2 1 v2])])):=by kernel_rfl
theorem F94.run (k:Nat) (a0:Ovi.Rows):C (k+1) 94 [.d (.list 2 a0)]=ite' (((List.length a0):Int)==((List.length a0):Int)) (ite' (inM ((List.length a0):Int)) (F94.L3 k (C k) k a0 0 (za0 ((List.length a0):Int) [D.int .i64 0,D.list 1 []])) none) none:=(crun k 94 (by kernel_rfl) Tryz.func94 rfl).trans (by kernel_rfl)
theorem F95.run (k:Nat) (a0 a1_0 a1_1:Ovi.Rows):C (k+1) 95 [.d (.list 3 a0),.agg [.d (.list 1 a1_0),.d (.list 2 a1_1)]]=za ((C k) 161 [.d (.list 2 a1_1)]) fun r5=>zc (resO 3 1 1 false 1 r5 0 0) fun l6=>za ((C k) 162 [.d (.list 3 a0),.d (.list 2 a1_1),.d (.int .i64 3)]) fun r7=>zi (resB 1 false 1 r7 0 0) fun b8=>ite' b8 (ite' (decide (((List.length a1_0):Int)≤3)) (za ((C k) 163 [.d (.list 1 a1_0),.d (.fn 164 [[D.list 1 l6]])]) fun r9=>zi (resB 1 false 1 r9 0 0) fun b10=>some ([(false,[.d (.bool !b10)])])) (some ([(false,[.d (.bool false)])]))) (some ([(false,[.d (.bool false)])])):=(crun k 95 (by kernel_rfl) Tryz.func95 rfl).trans (by kernel_rfl)
theorem F96.run (k:Nat) (a0:Int):C (k+1) 96 [.d (.int .i64 a0)]=some ([(false,[.d (.int .i64 (IntKind.i64.wrap ((-1) - a0)))])]):=(crun k 96 (by kernel_rfl) Tryz.func96 rfl).trans (by kernel_rfl)
noncomputable def F97.L3 (k:Nat) (call:zg) (n:Nat) (v0 v1:Ovi.Rows) (v2 v3 v4:Int) (v5:List (List D)) (v6:Int) (v7:List (List D)):Option Res:=zp P hs call 97 k Tryz.f97 [1,1,0,1,0] [] n [(1,.d (.list 1 v0)),(4,.var 256 0),(6,.var 384 0),(14,.d (.list 1 v1)),(15,.d (.int .i64 v2)),(16,.d (.int .i64 v3))] [(256,Blk.var [.d (.int .i64 v4),AV.own 200065 0]),(200065,Blk.arr 3 1 0 v5 (0,0,0)),(384,Blk.var [.d (.int .i64 v6),AV.own 200097 0]),(200097,Blk.arr 3 1 0 v7 (0,0,0))]
theorem F97.L3.succ (k:Nat) (call:zg) (n:Nat) (v0 v1:Ovi.Rows) (v2 v3 v4:Int) (v5:List (List D)) (v6:Int) (v7:List (List D)):F97.L3 k call (n+1) v0 v1 v2 v3 v4 v5 v6 v7=ite' (decide (v3 < v2)) (ite' (inR v3 (List.length v1)) (zf (zm .i64 v1 v3.toNat 0) fun n14=>ite' (decide (n14 ≥ 0)) (ite' (decide (n14 ≥ ((List.length v0):Int))) (some ([(true,[.d (.int .i64 0),.nil]),(false,[.d (.bool false)])])) (ite' (inR n14 (List.length v0)) (zf (zm .i64 v0 n14.toNat 0) fun n15=>za (call 165 [.d (.int .i64 n15)]) fun r16=>zi (resB 1 false 1 r16 0 0) fun b17=>ite' (!b17) (some ([(true,[.d (.int .i64 0),.nil]),(false,[.d (.bool false)])])) (ite' (fits (v7.length+[[D.int .i64 n15]].length)) (F97.L3 k call n v0 v1 v2 (IntKind.i64.wrap (v3+1)) v4 v5 v6 (v7++[[D.int .i64 n15]])) none)) none)) (za (call 165 [.d (.int .i64 (IntKind.i64.wrap ((-1) - n14)))]) fun r15=>zi (resB 1 false 1 r15 0 0) fun b16=>ite' (!b16) (some ([(true,[.d (.int .i64 0),.nil]),(false,[.d (.bool false)])])) (ite' (fits (v7.length+[[D.int .i64 (IntKind.i64.wrap ((-1) - n14))]].length)) (F97.L3 k call n v0 v1 v2 (IntKind.i64.wrap (v3+1)) v4 v5 v6 (v7++[[D.int .i64 (IntKind.i64.wrap ((-1) - n14))]])) none))) none) (some ([(true,[.d (.int .i64 v6),.row 3 1 v7]),(false,[.d (.bool true)])])):=by kernel_rfl
theorem F97.run (k:Nat) (a0_0:Int) (a0_1 a1:Ovi.Rows):C (k+1) 97 [.agg [.d (.int .i64 a0_0),.d (.list 1 a0_1)],.d (.list 1 a1)]=F97.L3 k (C k) k a1 a0_1 (((List.length a0_1):Int)) 0 0 [] a0_0 []:=(crun k 97 (by kernel_rfl) Tryz.func97 rfl).trans (by kernel_rfl)
theorem F98.run (k:Nat) (a0_0 a0_1:Ovi.Rows):C (k+1) 98 [.agg [.d (.list 3 a0_0),.d (.list 2 a0_1)]]=za ((C k) 166 [.d (.list 3 a0_0)]) fun r4=>zc (resO 133 3 1 false 1 r4 0 0) fun l5=>za ((C k) 167 [.d (.list 2 a0_1)]) fun r6=>zc (resF 118 2 1 1 false 1 r6 0 0) fun l7=>some ([(true,[.row 133 3 l5,.frow 118 2 1 l7])]):=(crun k 98 (by kernel_rfl) Tryz.func98 rfl).trans (by kernel_rfl)
theorem F99.run (k:Nat) (a0:Ovi.Rows):C (k+1) 99 [.d (.list 2 a0)]=za ((C k) 167 [.d (.list 2 a0)]) fun r3=>zc (resF 118 2 1 1 false 1 r3 0 0) fun l4=>za ((C k) 168 [.var 0 0,.d (.int .i64 (↑118:Int)),.d (.list 2 l4),.d (.fn 169 [])]) fun r5=>zc (resF 118 2 0 1 false 1 r5 0 0) fun l6=>za ((C k) 170 [.var 0 0,.d (.int .i64 (↑118:Int)),.d (.list 2 l6),.d (.fn 171 [])]) fun r7=>zc (resF 118 2 0 2 false 1 r7 0 0) fun l8=>some ([(false,[.frow 118 2 1 l8])]):=(crun k 99 (by kernel_rfl) Tryz.func99 rfl).trans (by kernel_rfl)
noncomputable def F100.L4 (k:Nat) (call:zg) (n:Nat) (v0:Ovi.Rows) (v1 v2:Int) (v3 v4:Ovi.Rows):Option Res:=zp P hs call 100 k Tryz.f100 [1,1,0,1,0] [] n [(1,.var 64 0),(16,.d (.list 2 v0)),(17,.d (.int .i64 v1)),(18,.d (.int .i64 v2))] [(64,Blk.var [.d (.list 3 v3),.d (.list 2 v4)])]
theorem F100.L4.succ (k:Nat) (call:zg) (n:Nat) (v0:Ovi.Rows) (v1 v2:Int) (v3 v4:Ovi.Rows):F100.L4 k call (n+1) v0 v1 v2 v3 v4=ite' (decide (v2 < v1)) (ite' (inR v2 (List.length v0)) (zf (zm .i64 v0 v2.toNat 0) fun n10=>zc (zr 1 v0 v2.toNat 1) fun l11=>za (call 173 [.d (.list 3 v3),.agg [.d (.int .i64 n10),.d (.list 1 l11)]]) fun r12=>zi (resB 1 false 1 r12 0 0) fun b13=>ite' (!b13) (some ([(false,[.d (.bool false)])])) (ite' (decide (v2 > 0)) (ite' (inR (IntKind.i64.wrap (v2 - 1)) (List.length v4)) (zf (zm .i64 v4 (IntKind.i64.wrap (v2 - 1)).toNat 0) fun n14=>zc (zr 1 v4 (IntKind.i64.wrap (v2 - 1)).toNat 1) fun l15=>za (call 169 [.agg [.d (.int .i64 n14),.d (.list 1 l15)],.agg [.d (.int .i64 n10),.d (.list 1 l11)]]) fun r16=>zf (resI .i64 1 false 1 r16 0 0) fun n17=>ite' (decide (n17 ≥ 0)) (some ([(false,[.d (.bool false)])])) (ite' (inR n10 (List.length v3)) (zi (zam v3 n10.toNat 2) fun b18=>ite' b18 (za (call 174 [.agg [.d (.int .i64 n10),.d (.list 1 l11)]]) fun r19=>zc (resO 3 1 1 false 1 r19 0 0) fun l20=>ite' (decide (((List.length l20):Int) > 0)) (some ([(false,[.d (.bool false)])])) (F100.L4 k call n v0 v1 (IntKind.i64.wrap (v2+1)) v3 v4)) (F100.L4 k call n v0 v1 (IntKind.i64.wrap (v2+1)) v3 v4)) none)) none) (ite' (inR n10 (List.length v3)) (zi (zam v3 n10.toNat 2) fun b14=>ite' b14 (za (call 174 [.agg [.d (.int .i64 n10),.d (.list 1 l11)]]) fun r15=>zc (resO 3 1 1 false 1 r15 0 0) fun l16=>ite' (decide (((List.length l16):Int) > 0)) (some ([(false,[.d (.bool false)])])) (F100.L4 k call n v0 v1 (IntKind.i64.wrap (v2+1)) v3 v4)) (F100.L4 k call n v0 v1 (IntKind.i64.wrap (v2+1)) v3 v4)) none))) none) (some ([(false,[.d (.bool true)])])):=by kernel_rfl
theorem F100.run (k:Nat) (a0_0 a0_1:Ovi.Rows):C (k+1) 100 [.agg [.d (.list 3 a0_0),.d (.list 2 a0_1)]]=za ((C k) 172 [.d (.list 3 a0_0)]) fun r4=>zi (resB 1 false 1 r4 0 0) fun b5=>ite' (!b5) (some ([(false,[.d (.bool false)])])) (ite' (decide (((List.length a0_1):Int) > 30)) (some ([(false,[.d (.bool false)])])) (F100.L4 k (C k) k a0_1 (((List.length a0_1):Int)) 0 a0_0 a0_1)):=(crun k 100 (by kernel_rfl) Tryz.func100 rfl).trans (by kernel_rfl)
theorem F101.run (k:Nat) (a0_0:List UInt8) (a0_1:Int) (a0_2:Bool) (a1_0:List UInt8) (a1_1:Int) (a1_2:Bool):C (k+1) 101 [.agg [.d (.str a0_0),.d (.int .i64 a0_1),.d (.bool a0_2)],.agg [.d (.str a1_0),.d (.int .i64 a1_1),.d (.bool a1_2)]]=ite' (!a0_0==a1_0) (some ([(false,[.d (.bool false)])])) (ite' (a0_1 != a1_1) (some ([(false,[.d (.bool false)])])) (ite' (!a0_2==a1_2) (some ([(false,[.d (.bool false)])])) (some ([(false,[.d (.bool true)])])))):=(crun k 101 (by kernel_rfl) Tryz.func101 rfl).trans (by kernel_rfl)
noncomputable def F102.L4 (k:Nat) (call:zg) (n:Nat) (v0 v1:Ovi.Rows) (v2:Int):Option Res:=zp P hs call 102 k Tryz.f102 [1,1,0,1,0] [] n [(0,.d (.list 2 v0)),(1,.d (.list 2 v1)),(5,.d (.int .i64 v2))] []
theorem F102.L4.succ (k:Nat) (call:zg) (n:Nat) (v0 v1:Ovi.Rows) (v2:Int):F102.L4 k call (n+1) v0 v1 v2=ite' (decide (v2 < ((List.length v0):Int))) (ite' (inR v2 (List.length v0)) (zf (zm .i64 v0 v2.toNat 0) fun n8=>zc (zr 1 v0 v2.toNat 1) fun l9=>ite' (inR v2 (List.length v1)) (zf (zm .i64 v1 v2.toNat 0) fun n10=>zc (zr 1 v1 v2.toNat 1) fun l11=>za (call 175 [.agg [.d (.int .i64 n8),.d (.list 1 l9)],.agg [.d (.int .i64 n10),.d (.list 1 l11)]]) fun r12=>zi (resB 1 false 1 r12 0 0) fun b13=>ite' (!b13) (some ([(false,[.d (.bool false)])])) (F102.L4 k call n v0 v1 (IntKind.i64.wrap (v2+1)))) none) none) (some ([(false,[.d (.bool true)])])):=by kernel_rfl
theorem F102.run (k:Nat) (a0 a1:Ovi.Rows):C (k+1) 102 [.d (.list 2 a0),.d (.list 2 a1)]=ite' (((List.length a0):Int) != ((List.length a1):Int)) (some ([(false,[.d (.bool false)])])) (F102.L4 k (C k) k a0 a1 0):=(crun k 102 (by kernel_rfl) Tryz.func102 rfl).trans (by kernel_rfl)
noncomputable def F103.L4 (k:Nat) (call:zg) (n:Nat) (v0:Int) (v1:List UInt8):Option Res:=zp P hs call 103 k Tryz.f103 [1,1,1,0,0] [] n [(0,.d (.int .i64 v0)),(3,.d (.str v1))] []
theorem F103.L4.succ (k:Nat) (call:zg) (n:Nat) (v0:Int) (v1:List UInt8):F103.L4 k call (n+1) v0 v1=ite' (decide (v0 > 0)) (zbg (zd7 [[D.int IntKind.u8 (IntKind.u8.wrap (IntKind.i64.wrap (48+v0.tmod 10)))]]) fun s6=>ite' (fits (s6.length+v1.length)) (F103.L4 k call n (IntKind.i64.wrap (v0.tdiv 10)) (s6++v1)) none) (ite' (fits (1+v1.length)) (some ([(false,[.d (.str ((109:UInt8)::v1))])])) none):=by kernel_rfl
theorem F103.eq (k:Nat) (call:zg) (a0:Int):zc3 P hs call (103:FuncId) k Tryz.f103 [.d (.int .i64 a0)]=ite' (decide (a0≤0)) (some ([(false,[.d (.str [(109:UInt8),(48:UInt8)])])])) (F103.L4 k call k a0 []):=by kernel_rfl
theorem F103.run (k:Nat) (a0:Int):C (k+1) 103 [.d (.int .i64 a0)]=ite' (decide (a0≤0)) (some ([(false,[.d (.str [(109:UInt8),(48:UInt8)])])])) (F103.L4 k (C k) k a0 []):=(crun k 103 (by kernel_rfl) Tryz.func103 rfl).trans (F103.eq k (C k) a0)
noncomputable def F105.L6 (k:Nat) (call:zg) (n:Nat) (v0:Int) (v1:List (List D)) (v2:Ovi.Rows):Option Res:=zp P hs call 105 k Tryz.f105 [1,1,1,1,0,1,0] [] n [(5,AV.own 100005 0),(6,AV.own 100006 0),(7,.d (.int .i64 v0))] [(100005,Blk.arr 39 1 0 v1 (0,0,0)),(100006,Blk.arr 39 1 0 v2 (0,0,0))]
noncomputable def F105.L10 (k:Nat) (call:zg) (k6 n:Nat) (v0:Int) (v1:Bool) (v2:Int) (v3:List (List D)) (v4:Ovi.Rows):Option Res:=zp P hs call 105 k Tryz.f105 [1,1,1,1,0,1,0,0,1,0,0,1,0,1,0] [k6] n [(5,AV.own 100005 0),(6,AV.own 100006 0),(7,.d (.int .i64 v0)),(8,.d (.bool v1)),(9,.d (.int .i64 v2))] [(100005,Blk.arr 39 1 0 v3 (0,0,0)),(100006,Blk.arr 39 1 0 v4 (0,0,0))]
theorem F105.L6.succ (k:Nat) (call:zg) (n:Nat) (v0:Int) (v1:List (List D)) (v2:Ovi.Rows):F105.L6 k call (n+1) v0 v1 v2=ite' (decide (v0 < ((List.length v2):Int))) (F105.L10 k call n k v0 false 0 v1 v2) (some ([(false,[.row 39 1 v1])])):=by kernel_rfl
theorem F105.L10.succ (k:Nat) (call:zg) (k6 n:Nat) (v0:Int) (v1:Bool) (v2:Int) (v3:List (List D)) (v4:Ovi.Rows):F105.L10 k call k6 (n+1) v0 v1 v2 v3 v4=ite' (decide (v2 < (↑v3.length:Int))) (ite' v1 (F105.L10 k call k6 n v0 true (IntKind.i64.wrap (v2+1)) v3 v4) (ite' (inR v2 v3.length) (zc (zr 1 v3 v2.toNat 0) fun l12=>ite' (inR v0 (List.length v4)) (zc (zr 1 v4 v0.toNat 0) fun l13=>za (call 179 [.d (.list 1 l12),.d (.list 1 l13)]) fun r14=>zf (resI .i64 1 false 1 r14 0 0) fun n15=>F105.L10 k call k6 n v0 (n15==0) (IntKind.i64.wrap (v2+1)) v3 v4) none) none)) (ite' (!v1) (ite' (inR v0 (List.length v4)) (zc (zr 1 v4 v0.toNat 0) fun l12=>ite' (fits (v3.length+[[D.list 1 l12]].length)) (F105.L6 k call k6 (IntKind.i64.wrap (v0+1)) (v3++[[D.list 1 l12]]) v4) none) none) (F105.L6 k call k6 (IntKind.i64.wrap (v0+1)) v3 v4)):=by kernel_rfl
theorem F105.run (k:Nat) (a0_0 a0_1 a1:Ovi.Rows):C (k+1) 105 [.agg [.d (.list 3 a0_0),.d (.list 2 a0_1)],.d (.list 2 a1)]=za ((C k) 176 [.agg [.d (.list 3 a0_0),.d (.list 2 a0_1)],.d (.list 2 a1)]) fun r5=>zi (resB 1 false 1 r5 0 0) fun b6=>ite' (!b6) (some ([(false,[.nil])])) (za ((C k) 178 []) fun r7=>zc (resO 3 1 1 false 1 r7 0 0) fun l8=>za ((C k) 177 [.agg [.d (.list 3 a0_0),.d (.list 2 a0_1)],.d (.list 2 a1),.d (.int .i64 0),.d (.list 1 l8)]) fun r9=>zc (resO 39 1 1 false 1 r9 0 0) fun l10=>F105.L6 k (C k) k 0 [] l10):=(crun k 105 (by kernel_rfl) Tryz.func105 rfl).trans (by kernel_rfl)
noncomputable def F106.L2 (k:Nat) (call:zg) (n:Nat) (v0 v1:Ovi.Rows) (v2:Int):Option Res:=zp P hs call 106 k Tryz.f106 [1,1,0,0] [] n [(0,.d (.list 1 v0)),(1,.d (.list 1 v1)),(5,.d (.int .i64 v2))] []
theorem F106.L2.succ (k:Nat) (call:zg) (n:Nat) (v0 v1:Ovi.Rows) (v2:Int):F106.L2 k call (n+1) v0 v1 v2=ite' (decide (v2 < ((List.length v0):Int))) (ite' (inR v2 (List.length v0)) (zc (zr 1 v0 v2.toNat 0) fun l8=>za (call 179 [.d (.list 1 l8),.d (.list 1 v1)]) fun r9=>zf (resI .i64 1 false 1 r9 0 0) fun n10=>ite' (decide (n10 < 0)) (F106.L2 k call n v0 v1 (IntKind.i64.wrap (v2+1))) (ite' (decide (v2 < ((List.length v0):Int))) (ite' (inR v2 (List.length v0)) (zc (zr 1 v0 v2.toNat 0) fun l11=>za (call 179 [.d (.list 1 l11),.d (.list 1 v1)]) fun r12=>zf (resI .i64 1 false 1 r12 0 0) fun n13=>ite' (n13==0) (some ([(false,[.d (.list 1 v0)])])) (ite' (inS v2 ((List.length v0):Int) (List.length v0)) (ite' (fits ([[D.list 1 v1]].length+(List.drop v2.toNat v0).length)) (ite' (inS 0 v2 (List.length v0)) (ite' (fits (List.take v2.toNat v0).length) (ite' (fits ((List.take v2.toNat v0).length+List.length ([[D.list 1 v1]]++List.drop v2.toNat v0))) (some ([(false,[.row 39 1 (List.take v2.toNat v0++([[D.list 1 v1]]++List.drop v2.toNat v0))])])) none) none) none) none) none)) none) (ite' (inS v2 ((List.length v0):Int) (List.length v0)) (ite' (fits ([[D.list 1 v1]].length+(List.drop v2.toNat v0).length)) (ite' (inS 0 v2 (List.length v0)) (ite' (fits (List.take v2.toNat v0).length) (ite' (fits ((List.take v2.toNat v0).length+List.length ([[D.list 1 v1]]++List.drop v2.toNat v0))) (some ([(false,[.row 39 1 (List.take v2.toNat v0++([[D.list 1 v1]]++List.drop v2.toNat v0))])])) none) none) none) none) none))) none) (ite' (decide (v2 < ((List.length v0):Int))) (ite' (inR v2 (List.length v0)) (zc (zr 1 v0 v2.toNat 0) fun l8=>za (call 179 [.d (.list 1 l8),.d (.list 1 v1)]) fun r9=>zf (resI .i64 1 false 1 r9 0 0) fun n10=>ite' (n10==0) (some ([(false,[.d (.list 1 v0)])])) (ite' (inS v2 ((List.length v0):Int) (List.length v0)) (ite' (fits ([[D.list 1 v1]].length+(List.drop v2.toNat v0).length)) (ite' (inS 0 v2 (List.length v0)) (ite' (fits (List.take v2.toNat v0).length) (ite' (fits ((List.take v2.toNat v0).length+List.length ([[D.list 1 v1]]++List.drop v2.toNat v0))) (some ([(false,[.row 39 1 (List.take v2.toNat v0++([[D.list 1 v1]]++List.drop v2.toNat v0))])])) none) none) none) none) none)) none) (ite' (inS v2 ((List.length v0):Int) (List.length v0)) (ite' (fits ([[D.list 1 v1]].length+(List.drop v2.toNat v0).length)) (ite' (inS 0 v2 (List.length v0)) (ite' (fits (List.take v2.toNat v0).length) (ite' (fits ((List.take v2.toNat v0).length+List.length ([[D.list 1 v1]]++List.drop v2.toNat v0))) (some ([(false,[.row 39 1 (List.take v2.toNat v0++([[D.list 1 v1]]++List.drop v2.toNat v0))])])) none) none) none) none) none)):=by kernel_rfl
theorem F106.run (k:Nat) (a0 a1:Ovi.Rows):C (k+1) 106 [.d (.list 1 a0),.d (.list 1 a1)]=F106.L2 k (C k) k a0 a1 0:=(crun k 106 (by kernel_rfl) Tryz.func106 rfl).trans (by kernel_rfl)
noncomputable def F107.L3 (k:Nat) (call:zg) (n:Nat) (v0:FuncId) (v1:Ovi.Rows) (v2 v3:Int) (v4 v5:Ovi.Rows) (v6:List (List D)) (v7:Ovi.Rows):Option Res:=zp P hs call 107 k Tryz.f107 [1,1,0,1,0] [] n [(2,.d (.fn v0 v1)),(4,.var 256 0),(7,AV.own 100007 0),(17,AV.own 100017 0),(18,.d (.int .i64 v2)),(19,.d (.int .i64 v3))] [(256,Blk.var [.d (.list 1 v4),.d (.list 2 v5)]),(100007,Blk.arr 39 1 0 v6 (1,0,0)),(100017,Blk.arr 39 1 0 v7 (0,0,0))]
noncomputable def F107.L8 (k:Nat) (call:zg) (k3 n:Nat) (v0:FuncId) (v1 v2:Ovi.Rows) (v3 v4:Int) (v5:Ovi.Rows) (v6 v7:Int) (v8 v9:Ovi.Rows) (v10 v11:List (List D)) (v12:Ovi.Rows):Option Res:=zp P hs call 107 k Tryz.f107 [1,1,0,1,0,0,1,1,0,0,1,1,1,0,1,0] [k3] n [(2,.d (.fn v0 v1)),(4,.var 256 0),(7,AV.own 100007 0),(9,.d (.list 1 v2)),(10,AV.own 100010 0),(17,AV.own 100017 0),(18,.d (.int .i64 v3)),(19,.d (.int .i64 v4)),(29,.d (.list 1 v5)),(30,.d (.int .i64 v6)),(31,.d (.int .i64 v7))] [(256,Blk.var [.d (.list 1 v8),.d (.list 2 v9)]),(100007,Blk.arr 39 1 0 v10 (1,0,0)),(100010,Blk.arr 3 1 0 v11 (0,0,0)),(100017,Blk.arr 39 1 0 v12 (0,0,0))]
theorem F107.L3.succ (k:Nat) (call:zg) (n:Nat) (v0:FuncId) (v1:Ovi.Rows) (v2 v3:Int) (v4 v5:Ovi.Rows) (v6:List (List D)) (v7:Ovi.Rows):F107.L3 k call (n+1) v0 v1 v2 v3 v4 v5 v6 v7=ite' (decide (v3 < v2)) (ite' (inR v3 (List.length v7)) (zc (zr 1 v7 v3.toNat 0) fun l17=>za (call v0 (.d (.list 1 l17)::[].append (List.map (fun (c:List D)=>AV.cap c 0) v1))) fun r18=>zi (resB 1 false 1 r18 0 0) fun b19=>ite' (!b19) (F107.L3 k call n v0 v1 v2 (IntKind.i64.wrap (v3+1)) v4 v5 v6 v7) (F107.L8 k call n k v0 v1 l17 v2 v3 v4 (((List.length v4):Int)) 0 v4 v5 v6 [] v7)) none) (za (call 181 [.var 0 0,.d (.int .i64 (↑39:Int)),.d (.list 1 v6)]) fun r17=>zc (resF 39 1 0 2 false 1 r17 0 0) fun l18=>some ([(false,[.frow 39 1 1 l18])])):=by kernel_rfl
theorem F107.L8.succ (k:Nat) (call:zg) (k3 n:Nat) (v0:FuncId) (v1 v2:Ovi.Rows) (v3 v4:Int) (v5:Ovi.Rows) (v6 v7:Int) (v8 v9:Ovi.Rows) (v10 v11:List (List D)) (v12:Ovi.Rows):F107.L8 k call k3 (n+1) v0 v1 v2 v3 v4 v5 v6 v7 v8 v9 v10 v11 v12=ite' (decide (v7 < v6)) (ite' (inR v7 (List.length v5)) (zf (zm .i64 v5 v7.toNat 0) fun n23=>ite' (inR n23 (List.length v2)) (zf (zm .i64 v2 n23.toNat 0) fun n24=>ite' (fits (v11.length+[[D.int .i64 n24]].length)) (F107.L8 k call k3 n v0 v1 v2 v3 v4 v5 v6 (IntKind.i64.wrap (v7+1)) v8 v9 v10 (v11++[[D.int .i64 n24]]) v12) none) none) none) (ite' (fits (v10.length+[[D.list 1 v11]].length)) (F107.L3 k call k3 v0 v1 v3 (IntKind.i64.wrap (v4+1)) v8 v9 (v10++[[D.list 1 v11]]) v12) none):=by kernel_rfl
theorem F107.run (k:Nat) (a0_0 a0_1 a1_0 a1_1:Ovi.Rows) (a2:FuncId) (a2c:Ovi.Rows):C (k+1) 107 [.agg [.d (.list 3 a0_0),.d (.list 2 a0_1)],.agg [.d (.list 1 a1_0),.d (.list 2 a1_1)],.d (.fn a2 a2c)]=za ((C k) 180 [.agg [.d (.list 3 a0_0),.d (.list 2 a0_1)],.d (.list 2 a1_1)]) fun r8=>zc (resO 39 1 1 false 1 r8 0 0) fun l9=>F107.L3 k (C k) k a2 a2c (((List.length l9):Int)) 0 a1_0 a1_1 [] l9:=(crun k 107 (by kernel_rfl) Tryz.func107 rfl).trans (by kernel_rfl)
theorem F108.run (k:Nat) (a0:Ovi.Rows):C (k+1) 108 [.d (.list 1 a0)]=some ([(false,[.d (.bool true)])]):=(crun k 108 (by kernel_rfl) Tryz.func108 rfl).trans (by kernel_rfl)
noncomputable def F109.L2 (k:Nat) (call:zg) (n:Nat) (v0:Ovi.Rows) (v1 v2:Int):Option Res:=zp P hs call 109 k Tryz.f109 [1,0,1,0] [] n [(0,.d (.list 1 v0)),(1,.d (.int .i64 v1)),(5,.d (.int .i64 v2))] []
theorem F109.L2.succ (k:Nat) (call:zg) (n:Nat) (v0:Ovi.Rows) (v1 v2:Int):F109.L2 k call (n+1) v0 v1 v2=ite' (decide (v2 < ((List.length v0):Int))) (ite' (inR v2 (List.length v0)) (zf (zm .i64 v0 v2.toNat 0) fun n8=>ite' (n8 != v1) (some ([(false,[.d (.int .i64 (-1))])])) (F109.L2 k call n v0 (IntKind.i64.wrap (v1+1)) (IntKind.i64.wrap (v2+1)))) none) (some ([(false,[.d (.int .i64 v1)])])):=by kernel_rfl
theorem F109.run (k:Nat) (a0:Ovi.Rows) (a1:Int):C (k+1) 109 [.d (.list 1 a0),.d (.int .i64 a1)]=F109.L2 k (C k) k a0 a1 0:=(crun k 109 (by kernel_rfl) Tryz.func109 rfl).trans (by kernel_rfl)
theorem F114.run (k:Nat) (a0_0 a0_1:Ovi.Rows) (a0_2:Bool) (a0_3 a0_4 a1:Int):C (k+1) 114 [.agg [.d (.list 2 a0_0),.d (.list 2 a0_1),.d (.bool a0_2),.d (.int .i64 a0_3),.d (.int .i64 a0_4)],.d (.int .i64 a1)]=za ((C k) 88 [.d (.list 2 a0_0),.d (.int .i64 a1)]) fun r8=>zf (resI .i64 1 false 1 r8 0 0) fun n9=>ite' (decide (n9 < 0)) (some ([(false,[.d (.int .i64 (-1))])])) (za ((C k) 88 [.d (.list 2 a0_1),.d (.int .i64 n9)]) fun r10=>zf (resI .i64 1 false 1 r10 0 0) fun n11=>ite' (decide (n11 < 0)) (some ([(false,[.d (.int .i64 (-1))])])) (some ([(false,[.d (.int .i64 n11)])]))):=(crun k 114 (by kernel_rfl) Tryz.func114 rfl).trans (by kernel_rfl)
theorem F115.run (k:Nat) (a0_0:Int) (a0_1:Ovi.Rows) (a1:Int):C (k+1) 115 [.agg [.d (.int .i64 a0_0),.d (.list 1 a0_1)],.d (.int .i64 a1)]=za ((C k) 87 [.d (.list 1 a0_1),.d (.int .i64 a1)]) fun r5=>zf (resI .i64 1 false 1 r5 0 0) fun n6=>ite' (decide (n6 < 0)) (some ([(false,[.d (.int .i64 (-1))])])) (some ([(false,[.d (.int .i64 n6)])])):=(crun k 115 (by kernel_rfl) Tryz.func115 rfl).trans (by kernel_rfl)
noncomputable def F116.L2 (k:Nat) (call:zg) (n:Nat) (v0 v1:Ovi.Rows) (v2:Int):Option Res:=zp P hs call 116 k Tryz.f116 [1,0,1,0] [] n [(0,.d (.list 3 v0)),(1,.d (.list 5 v1)),(5,.d (.int .i64 v2))] []
theorem F116.L2.succ (k:Nat) (call:zg) (n:Nat) (v0 v1:Ovi.Rows) (v2:Int):F116.L2 k call (n+1) v0 v1 v2=ite' (decide (v2 < ((List.length v1):Int))) (ite' (inR v2 (List.length v1)) (zc (zr 2 v1 v2.toNat 0) fun l8=>zc (zr 2 v1 v2.toNat 1) fun l9=>zi (zam v1 v2.toNat 2) fun b10=>zf (zm .i64 v1 v2.toNat 3) fun n11=>zf (zm .i64 v1 v2.toNat 4) fun n12=>za (call 183 [.d (.list 3 v0),.agg [.d (.list 2 l8),.d (.list 2 l9),.d (.bool b10),.d (.int .i64 n11),.d (.int .i64 n12)]]) fun r13=>zi (resB 1 false 1 r13 0 0) fun b14=>ite' (!b14) (some ([(false,[.d (.bool false)])])) (F116.L2 k call n v0 v1 (IntKind.i64.wrap (v2+1)))) none) (za (call 146 [.d (.list 3 v0)]) fun r8=>zi (resB 1 false 1 r8 0 0) fun b9=>ite' b9 (some ([(false,[.d (.bool (decide (((List.length v1):Int)≤5)))])])) (some ([(false,[.d (.bool false)])]))):=by kernel_rfl
theorem F116.run (k:Nat) (a0 a1:Ovi.Rows):C (k+1) 116 [.d (.list 3 a0),.d (.list 5 a1)]=F116.L2 k (C k) k a0 a1 0:=(crun k 116 (by kernel_rfl) Tryz.func116 rfl).trans (by kernel_rfl)
theorem F117.run (k:Nat) (a0_0 a0_1 a1_0 a1_1:Ovi.Rows) (a1_2:Bool) (a1_3 a1_4:Int) (a2:Ovi.Rows):C (k+1) 117 [.agg [.d (.list 3 a0_0),.d (.list 2 a0_1)],.agg [.d (.list 2 a1_0),.d (.list 2 a1_1),.d (.bool a1_2),.d (.int .i64 a1_3),.d (.int .i64 a1_4)],.d (.list 1 a2)]=za ((C k) 129 [.agg [.d (.list 3 a0_0),.d (.list 2 a0_1)],.agg [.d (.list 2 a1_0),.d (.list 2 a1_1),.d (.bool a1_2),.d (.int .i64 a1_3),.d (.int .i64 a1_4)],.d (.list 1 a2)]) fun r10=>zi (resB 1 false 1 r10 0 0) fun b11=>ite' (!b11) (some ([(false,[.d (.bool false)])])) (ite' a1_2 (ite' (inR a1_3 (List.length a2)) (zf (zm .i64 a2 a1_3.toNat 0) fun n12=>ite' (inR a1_4 (List.length a2)) (zf (zm .i64 a2 a1_4.toNat 0) fun n13=>some ([(false,[.d (.bool (n12 != n13))])])) none) none) (za ((C k) 184 [.agg [.d (.list 3 a0_0),.d (.list 2 a0_1)],.d (.list 2 a1_1),.d (.list 1 a2)]) fun r12=>zi (resB 1 false 1 r12 0 0) fun b13=>some ([(false,[.d (.bool !b13)])]))):=(crun k 117 (by kernel_rfl) Tryz.func117 rfl).trans (by kernel_rfl)
noncomputable def F118.L15 (k:Nat) (call:zg) (n:Nat) (v0:Int) (v1 v2 v3 v4:Ovi.Rows) (v5:Bool) (v6 v7:Int) (v8 v9:List (List D)) (v10 v11 v12 v13:Ovi.Rows):Option Res:=zp P hs call 118 k Tryz.f118 [1,1,1,1,1,1,0,1,0] [] n [(3,.var 192 0),(4,.var 256 0),(6,.var 384 0),(8,.var 512 0),(15,AV.own 100015 0),(16,AV.own 100016 0),(17,.d (.int .i64 v0))] [(192,Blk.var [.d (.list 3 v1),.d (.list 2 v2)]),(256,Blk.var [.d (.list 2 v3),.d (.list 2 v4),.d (.bool v5),.d (.int .i64 v6),.d (.int .i64 v7)]),(384,Blk.var [AV.own 200096 0,AV.own 200097 0]),(200096,Blk.arr 133 3 0 v8 (0,0,0)),(200097,Blk.arr 118 2 0 v9 (1,0,0)),(512,Blk.var [AV.own 200128 0,AV.own 200129 0]),(200128,Blk.arr 133 3 0 v10 (0,0,0)),(200129,Blk.arr 118 2 0 v11 (1,0,0)),(100015,Blk.arr 3 1 0 v12 (0,0,0)),(100016,Blk.arr 3 1 0 v13 (0,0,0))]
noncomputable def F118.L23 (k:Nat) (call:zg) (n:Nat) (v0:Ovi.Rows) (v1:Int) (v2 v3:Ovi.Rows) (v4:Bool) (v5 v6:Int) (v7 v8:List (List D)) (v9 v10 v11 v12:Ovi.Rows):Option Res:=zp P hs call 118 k Tryz.f118 [1,1,1,1,1,1,1,1,0,1,0] [] n [(4,.var 256 0),(6,.var 384 0),(8,.var 512 0),(15,.d (.list 1 v0)),(19,.var 1216 0),(20,.d (.int .i64 v1))] [(256,Blk.var [.d (.list 2 v2),.d (.list 2 v3),.d (.bool v4),.d (.int .i64 v5),.d (.int .i64 v6)]),(384,Blk.var [AV.own 200096 0,AV.own 200097 0]),(200096,Blk.arr 133 3 0 v7 (0,0,0)),(200097,Blk.arr 118 2 0 v8 (1,0,0)),(512,Blk.var [.d (.list 3 v9),.d (.list 2 v10)]),(1216,Blk.var [.d (.list 3 v11),.d (.list 2 v12)])]
theorem F118.L15.succ (k:Nat) (call:zg) (n:Nat) (v0:Int) (v1 v2 v3 v4:Ovi.Rows) (v5:Bool) (v6 v7:Int) (v8 v9:List (List D)) (v10 v11 v12 v13:Ovi.Rows):F118.L15 k call (n+1) v0 v1 v2 v3 v4 v5 v6 v7 v8 v9 v10 v11 v12 v13=ite' (decide (v0 < ((List.length v13):Int))) (za (call 186 [.agg [.d (.list 3 v1),.d (.list 2 v2)]]) fun r25=>zf (resI .i64 1 false 1 r25 0 0) fun n26=>ite' (decide (IntKind.i64.wrap (n26+v0) ≥ 40)) (some ([(true,[.row 133 3 v10,.row 118 2 v11]),(false,[.d (.int .i64 3)])])) (ite' (inR v0 (List.length v13)) (zf (zm .i64 v13 v0.toNat 0) fun n27=>za (call 70 [.d (.int .i64 (IntKind.i64.wrap (n26+v0)))]) fun r28=>zf (resI .i64 1 false 1 r28 0 0) fun n29=>ite' (inR n27 (List.length v12)) (F118.L15 k call n (IntKind.i64.wrap (v0+1)) v1 v2 v3 v4 v5 v6 v7 v8 v9 v10 v11 (rowsSet v12 n27.toNat 0 [D.int .i64 n29]) v13) none) none)) (F118.L23 k call k v12 0 v3 v4 v5 v6 v7 v8 v9 v10 v11 v10 v11):=by kernel_rfl
theorem F118.L23.succ (k:Nat) (call:zg) (n:Nat) (v0:Ovi.Rows) (v1:Int) (v2 v3:Ovi.Rows) (v4:Bool) (v5 v6:Int) (v7 v8:List (List D)) (v9 v10 v11 v12:Ovi.Rows):F118.L23 k call (n+1) v0 v1 v2 v3 v4 v5 v6 v7 v8 v9 v10 v11 v12=ite' (decide (v1 < ((List.length v3):Int))) (ite' (inR v1 (List.length v3)) (zf (zm .i64 v3 v1.toNat 0) fun n24=>zc (zr 1 v3 v1.toNat 1) fun l25=>za (call 90 [.agg [.d (.int .i64 n24),.d (.list 1 l25)],.d (.list 1 v0)]) fun r26=>zf (resI .i64 2 true 2 r26 0 0) fun n27=>zc (resO 3 1 2 true 2 r26 0 1) fun l28=>zi (resB 2 false 1 r26 1 0) fun b29=>za (call 91 [.agg [.d (.list 3 v11),.d (.list 2 v12)],.agg [.d (.int .i64 n27),.d (.list 1 l28)]]) fun r30=>zc (resL 3 1 true 2 r30 0 0) fun l31=>zc (resL 2 1 true 2 r30 0 1) fun l32=>F118.L23 k call n v0 (IntKind.i64.wrap (v1+1)) v2 v3 v4 v5 v6 v7 v8 v9 v10 l31 l32) none) (ite' (decide (((List.length v12):Int) > 30)) (some ([(true,[.d (.list 3 v9),.d (.list 2 v10)]),(false,[.d (.int .i64 3)])])) (za (call 92 [.agg [.d (.list 3 v11),.d (.list 2 v12)]]) fun r24=>zc (resO 133 3 1 true 2 r24 0 0) fun l25=>zc (resF 118 2 1 1 true 2 r24 0 1) fun l26=>some ([(true,[.row 133 3 l25,.row 118 2 l26]),(false,[.d (.int .i64 1)])]))):=by kernel_rfl
theorem F118.run (k:Nat) (a0_0 a0_1 a1_0 a1_1:Ovi.Rows) (a1_2:Bool) (a1_3 a1_4:Int) (a2:Ovi.Rows):C (k+1) 118 [.agg [.d (.list 3 a0_0),.d (.list 2 a0_1)],.agg [.d (.list 2 a1_0),.d (.list 2 a1_1),.d (.bool a1_2),.d (.int .i64 a1_3),.d (.int .i64 a1_4)],.d (.list 1 a2)]=za ((C k) 92 [.agg [.d (.list 3 a0_0),.d (.list 2 a0_1)]]) fun r10=>zc (resO 133 3 1 true 2 r10 0 0) fun l11=>zc (resF 118 2 1 1 true 2 r10 0 1) fun l12=>za ((C k) 117 [.agg [.d (.list 3 a0_0),.d (.list 2 a0_1)],.agg [.d (.list 2 a1_0),.d (.list 2 a1_1),.d (.bool a1_2),.d (.int .i64 a1_3),.d (.int .i64 a1_4)],.d (.list 1 a2)]) fun r13=>zi (resB 1 false 1 r13 0 0) fun b14=>ite' (!b14) (some ([(true,[.row 133 3 l11,.row 118 2 l12]),(false,[.d (.int .i64 0)])])) (ite' a1_2 (ite' (inR a1_3 (List.length a2)) (zf (zm .i64 a2 a1_3.toNat 0) fun n15=>ite' (inR a1_4 (List.length a2)) (zf (zm .i64 a2 a1_4.toNat 0) fun n16=>ite' (decide (n15 ≥ 0)) (ite' (decide (n16 ≥ 0)) (some ([(true,[.row 133 3 l11,.row 118 2 l12]),(false,[.d (.int .i64 2)])])) (za ((C k) 80 [.d (.int .i64 (minI n15 n16))]) fun r17=>zf (resI .i64 2 false 1 r17 0 0) fun n18=>zi (resB 2 false 1 r17 1 0) fun b19=>za ((C k) 71 [.agg [.d (.list 1 [[D.int .i64 n18]]),.d (.list 1 [[D.int .i64 (maxI n15 n16)]])],.agg [.d (.list 3 a0_0),.d (.list 2 a0_1)]]) fun r20=>zc (resO 133 3 2 true 2 r20 0 0) fun l21=>zc (resF 118 2 1 2 true 2 r20 0 1) fun l22=>zi (resB 2 false 1 r20 1 0) fun b23=>some ([(true,[.row 133 3 l21,.row 118 2 l22]),(false,[.d (.int .i64 1)])]))) (za ((C k) 80 [.d (.int .i64 (minI n15 n16))]) fun r17=>zf (resI .i64 2 false 1 r17 0 0) fun n18=>zi (resB 2 false 1 r17 1 0) fun b19=>za ((C k) 71 [.agg [.d (.list 1 [[D.int .i64 n18]]),.d (.list 1 [[D.int .i64 (maxI n15 n16)]])],.agg [.d (.list 3 a0_0),.d (.list 2 a0_1)]]) fun r20=>zc (resO 133 3 2 true 2 r20 0 0) fun l21=>zc (resF 118 2 1 2 true 2 r20 0 1) fun l22=>zi (resB 2 false 1 r20 1 0) fun b23=>some ([(true,[.row 133 3 l21,.row 118 2 l22]),(false,[.d (.int .i64 1)])]))) none) none) (ite' (fits (List.length a2)) (za ((C k) 185 [.agg [.d (.list 2 a1_0),.d (.list 2 a1_1),.d (.bool a1_2),.d (.int .i64 a1_3),.d (.int .i64 a1_4)]]) fun r15=>zc (resO 3 1 1 false 1 r15 0 0) fun l16=>F118.L15 k (C k) k 0 a0_0 a0_1 a1_0 a1_1 a1_2 a1_3 a1_4 [] [] l11 l12 a2 l16) none)):=(crun k 118 (by kernel_rfl) Tryz.func118 rfl).trans (by kernel_rfl)
theorem F119.run (k:Nat) (a0_0 a0_1:Ovi.Rows) (a0_2:Bool) (a0_3 a0_4:Int):C (k+1) 119 [.agg [.d (.list 2 a0_0),.d (.list 2 a0_1),.d (.bool a0_2),.d (.int .i64 a0_3),.d (.int .i64 a0_4)]]=za ((C k) 94 [.d (.list 2 a0_0)]) fun r7=>zc (resF 130 2 1 1 false 1 r7 0 0) fun l8=>za ((C k) 94 [.d (.list 2 a0_1)]) fun r9=>zc (resF 130 2 1 1 false 1 r9 0 0) fun l10=>some ([(true,[.frow 130 2 1 l8,.frow 130 2 1 l10,.d (.bool a0_2),.d (.int .i64 a0_3),.d (.int .i64 a0_4)])]):=(crun k 119 (by kernel_rfl) Tryz.func119 rfl).trans (by kernel_rfl)
theorem F120.run (k:Nat) (a0_0:Int) (a0_1:Ovi.Rows):C (k+1) 120 [.agg [.d (.int .i64 a0_0),.d (.list 1 a0_1)]]=za ((C k) 57 [.d (.list 1 a0_1)]) fun r4=>zc (resO 3 1 1 false 1 r4 0 0) fun l5=>some ([(true,[.d (.int .i64 a0_0),.row 3 1 l5])]):=(crun k 120 (by kernel_rfl) Tryz.func120 rfl).trans (by kernel_rfl)
theorem F121.run (k:Nat) (a0 a1:Ovi.Rows):C (k+1) 121 [.d (.list 3 a0),.d (.list 5 a1)]=za ((C k) 172 [.d (.list 3 a0)]) fun r4=>zi (resB 1 false 1 r4 0 0) fun b5=>ite' b5 (ite' (decide (((List.length a1):Int)≤5)) (za ((C k) 187 [.d (.list 5 a1),.d (.fn 188 [[D.list 3 a0]])]) fun r6=>zi (resB 1 false 1 r6 0 0) fun b7=>some ([(false,[.d (.bool !b7)])])) (some ([(false,[.d (.bool false)])]))) (some ([(false,[.d (.bool false)])])):=(crun k 121 (by kernel_rfl) Tryz.func121 rfl).trans (by kernel_rfl)
noncomputable def F122.L8 (k:Nat) (call:zg) (n:Nat) (v0 v1 v2:Int) (v3 v4:Ovi.Rows) (v5 v6:List (List D)) (v7 v8:Ovi.Rows) (v9:Bool) (v10 v11:Int) (v12 v13:Ovi.Rows):Option Res:=zp P hs call 122 k Tryz.f122 [1,1,1,1,1,0,1,0] [] n [(3,.var 192 0),(6,.var 384 0),(8,.var 512 0),(9,AV.own 100009 0),(10,.d (.int .i64 v0)),(47,AV.own 100047 0),(48,.d (.int .i64 v1)),(49,.d (.int .i64 v2))] [(192,Blk.var [.d (.list 3 v3),.d (.list 2 v4)]),(384,Blk.var [AV.own 200096 0,AV.own 200097 0]),(200096,Blk.arr 133 3 0 v5 (0,0,0)),(200097,Blk.arr 118 2 0 v6 (1,0,0)),(512,Blk.var [.d (.list 2 v7),.d (.list 2 v8),.d (.bool v9),.d (.int .i64 v10),.d (.int .i64 v11)]),(100009,Blk.arr 3 1 0 v12 (0,0,0)),(100047,Blk.arr 3 1 0 v13 (0,0,0))]
noncomputable def F122.L15 (k:Nat) (call:zg) (n:Nat) (v0:Ovi.Rows) (v1:Int) (v2:Ovi.Rows) (v3 v4:Int) (v5 v6:Ovi.Rows) (v7 v8:List (List D)) (v9 v10:Ovi.Rows):Option Res:=zp P hs call 122 k Tryz.f122 [1,1,1,1,1,1,1,0,1,0] [] n [(3,.var 192 0),(6,.var 384 0),(9,.d (.list 1 v0)),(10,.d (.int .i64 v1)),(13,.var 832 0),(64,.d (.list 2 v2)),(65,.d (.int .i64 v3)),(66,.d (.int .i64 v4))] [(192,Blk.var [.d (.list 3 v5),.d (.list 2 v6)]),(384,Blk.var [AV.own 200096 0,AV.own 200097 0]),(200096,Blk.arr 133 3 0 v7 (0,0,0)),(200097,Blk.arr 118 2 0 v8 (1,0,0)),(832,Blk.var [AV.own 200208 0,AV.own 200209 0]),(200208,Blk.arr 133 3 0 v9 (0,0,0)),(200209,Blk.arr 118 2 0 v10 (1,0,0))]
theorem F122.L8.succ (k:Nat) (call:zg) (n:Nat) (v0 v1 v2:Int) (v3 v4:Ovi.Rows) (v5 v6:List (List D)) (v7 v8:Ovi.Rows) (v9:Bool) (v10 v11:Int) (v12 v13:Ovi.Rows):F122.L8 k call (n+1) v0 v1 v2 v3 v4 v5 v6 v7 v8 v9 v10 v11 v12 v13=ite' (decide (v2 < v1)) (ite' (inR v2 (List.length v13)) (zf (zm .i64 v13 v2.toNat 0) fun n25=>za (call 96 [.d (.int .i64 v0)]) fun r26=>zf (resI .i64 1 false 1 r26 0 0) fun n27=>ite' (inR n25 (List.length v12)) (F122.L8 k call n (IntKind.i64.wrap (v0+1)) v1 (IntKind.i64.wrap (v2+1)) v3 v4 v5 v6 v7 v8 v9 v10 v11 (rowsSet v12 n25.toNat 0 [D.int .i64 n27]) v13) none) none) (za (call 98 [.agg [.d (.list 3 v3),.d (.list 2 v4)]]) fun r25=>zc (resO 133 3 1 true 2 r25 0 0) fun l26=>zc (resF 118 2 1 1 true 2 r25 0 1) fun l27=>F122.L15 k call k v12 v0 v8 (((List.length v8):Int)) 0 v3 v4 v5 v6 l26 l27):=by kernel_rfl
theorem F122.L15.succ (k:Nat) (call:zg) (n:Nat) (v0:Ovi.Rows) (v1:Int) (v2:Ovi.Rows) (v3 v4:Int) (v5 v6:Ovi.Rows) (v7 v8:List (List D)) (v9 v10:Ovi.Rows):F122.L15 k call (n+1) v0 v1 v2 v3 v4 v5 v6 v7 v8 v9 v10=ite' (decide (v4 < v3)) (ite' (inR v4 (List.length v2)) (zf (zm .i64 v2 v4.toNat 0) fun n22=>zc (zr 1 v2 v4.toNat 1) fun l23=>za (call 97 [.agg [.d (.int .i64 n22),.d (.list 1 l23)],.d (.list 1 v0)]) fun r24=>zf (resI .i64 2 true 2 r24 0 0) fun n25=>zc (resO 3 1 2 true 2 r24 0 1) fun l26=>zi (resB 2 false 1 r24 1 0) fun b27=>ite' (fits (List.length v10+[[D.int .i64 n25,D.list 1 l26]].length)) (F122.L15 k call n v0 v1 v2 v3 (IntKind.i64.wrap (v4+1)) v5 v6 v7 v8 v9 (v10++[[D.int .i64 n25,D.list 1 l26]])) none) none) (za (call 99 [.d (.list 2 v10)]) fun r22=>zc (resF 118 2 1 1 false 1 r22 0 0) fun l23=>ite' (decide (v1 > 40)) (za (call 98 [.agg [.d (.list 3 v5),.d (.list 2 v6)]]) fun r24=>zc (resO 133 3 1 true 2 r24 0 0) fun l25=>zc (resF 118 2 1 1 true 2 r24 0 1) fun l26=>some ([(true,[.row 133 3 l25,.frow 118 2 1 l26]),(false,[.d (.int .i64 3)])])) (ite' (decide (((List.length l23):Int) > 30)) (za (call 98 [.agg [.d (.list 3 v5),.d (.list 2 v6)]]) fun r24=>zc (resO 133 3 1 true 2 r24 0 0) fun l25=>zc (resF 118 2 1 1 true 2 r24 0 1) fun l26=>some ([(true,[.row 133 3 l25,.frow 118 2 1 l26]),(false,[.d (.int .i64 3)])])) (some ([(true,[.row 133 3 v9,.frow 118 2 1 l23]),(false,[.d (.int .i64 1)])])))):=by kernel_rfl
theorem F122.run (k:Nat) (a0_0 a0_1 a1_0 a1_1:Ovi.Rows) (a1_2:Bool) (a1_3 a1_4:Int) (a2:Ovi.Rows):C (k+1) 122 [.agg [.d (.list 3 a0_0),.d (.list 2 a0_1)],.agg [.d (.list 2 a1_0),.d (.list 2 a1_1),.d (.bool a1_2),.d (.int .i64 a1_3),.d (.int .i64 a1_4)],.d (.list 1 a2)]=za ((C k) 190 [.agg [.d (.list 3 a0_0),.d (.list 2 a0_1)],.agg [.d (.list 2 a1_0),.d (.list 2 a1_1),.d (.bool a1_2),.d (.int .i64 a1_3),.d (.int .i64 a1_4)],.d (.list 1 a2)]) fun r10=>zi (resB 1 false 1 r10 0 0) fun b11=>ite' (!b11) (za ((C k) 98 [.agg [.d (.list 3 a0_0),.d (.list 2 a0_1)]]) fun r12=>zc (resO 133 3 1 true 2 r12 0 0) fun l13=>zc (resF 118 2 1 1 true 2 r12 0 1) fun l14=>some ([(true,[.row 133 3 l13,.frow 118 2 1 l14]),(false,[.d (.int .i64 0)])])) (ite' a1_2 (ite' (inR a1_3 (List.length a2)) (zf (zm .i64 a2 a1_3.toNat 0) fun n12=>ite' (inR a1_4 (List.length a2)) (zf (zm .i64 a2 a1_4.toNat 0) fun n13=>za ((C k) 191 [.agg [.d (.list 3 a0_0),.d (.list 2 a0_1)],.d (.int .i64 n12),.d (.int .i64 n13)]) fun r14=>zc (resO 133 3 2 true 2 r14 0 0) fun l15=>zc (resF 118 2 1 2 true 2 r14 0 1) fun l16=>zf (resI .i64 2 false 1 r14 1 0) fun n17=>some ([(true,[.row 133 3 l15,.frow 118 2 1 l16]),(false,[.d (.int .i64 n17)])])) none) none) (za ((C k) 192 [.d (.list 1 a2)]) fun r12=>zc (resO 3 1 1 false 1 r12 0 0) fun l13=>za ((C k) 193 [.agg [.d (.list 3 a0_0),.d (.list 2 a0_1)]]) fun r14=>zf (resI .i64 1 false 1 r14 0 0) fun n15=>za ((C k) 194 [.agg [.d (.list 2 a1_0),.d (.list 2 a1_1),.d (.bool a1_2),.d (.int .i64 a1_3),.d (.int .i64 a1_4)]]) fun r16=>zc (resO 3 1 1 false 1 r16 0 0) fun l17=>F122.L8 k (C k) k n15 (((List.length l17):Int)) 0 a0_0 a0_1 [] [] a1_0 a1_1 a1_2 a1_3 a1_4 l13 l17)):=(crun k 122 (by kernel_rfl) Tryz.func122 rfl).trans (by kernel_rfl)
theorem F123.run (k:Nat) (a0_0 a0_1:Ovi.Rows) (a0_2:Bool) (a0_3 a0_4:Int) (a1_0 a1_1:Ovi.Rows) (a1_2:Bool) (a1_3 a1_4:Int):C (k+1) 123 [.agg [.d (.list 2 a0_0),.d (.list 2 a0_1),.d (.bool a0_2),.d (.int .i64 a0_3),.d (.int .i64 a0_4)],.agg [.d (.list 2 a1_0),.d (.list 2 a1_1),.d (.bool a1_2),.d (.int .i64 a1_3),.d (.int .i64 a1_4)]]=za ((C k) 102 [.d (.list 2 a0_0),.d (.list 2 a1_0)]) fun r12=>zi (resB 1 false 1 r12 0 0) fun b13=>ite' (!b13) (some ([(false,[.d (.bool false)])])) (za ((C k) 102 [.d (.list 2 a0_1),.d (.list 2 a1_1)]) fun r14=>zi (resB 1 false 1 r14 0 0) fun b15=>ite' (!b15) (some ([(false,[.d (.bool false)])])) (ite' (!a0_2==a1_2) (some ([(false,[.d (.bool false)])])) (ite' (a0_3 != a1_3) (some ([(false,[.d (.bool false)])])) (ite' (a0_4 != a1_4) (some ([(false,[.d (.bool false)])])) (some ([(false,[.d (.bool true)])])))))):=(crun k 123 (by kernel_rfl) Tryz.func123 rfl).trans (by kernel_rfl)
theorem F124.run (k:Nat) (a0_0:Int) (a0_1:Ovi.Rows) (a1_0:Int) (a1_1:Ovi.Rows):C (k+1) 124 [.agg [.d (.int .i64 a0_0),.d (.list 1 a0_1)],.agg [.d (.int .i64 a1_0),.d (.list 1 a1_1)]]=ite' (a0_0 != a1_0) (some ([(false,[.d (.bool false)])])) (za ((C k) 60 [.d (.list 1 a0_1),.d (.list 1 a1_1)]) fun r6=>zi (resB 1 false 1 r6 0 0) fun b7=>ite' (!b7) (some ([(false,[.d (.bool false)])])) (some ([(false,[.d (.bool true)])]))):=(crun k 124 (by kernel_rfl) Tryz.func124 rfl).trans (by kernel_rfl)
noncomputable def F129.L5 (k:Nat) (call:zg) (n:Nat) (v0 v1:Ovi.Rows) (v2:Int) (v3 v4 v5 v6:Ovi.Rows) (v7:Bool) (v8 v9:Int):Option Res:=zp P hs call 129 k Tryz.f129 [1,1,1,0,1,0] [] n [(2,.d (.list 1 v0)),(3,.var 192 0),(4,.var 256 0),(7,.d (.list 1 v1)),(8,.d (.int .i64 v2))] [(192,Blk.var [.d (.list 3 v3),.d (.list 2 v4)]),(256,Blk.var [.d (.list 2 v5),.d (.list 2 v6),.d (.bool v7),.d (.int .i64 v8),.d (.int .i64 v9)])]
noncomputable def F129.L10 (k:Nat) (call:zg) (n:Nat) (v0:Ovi.Rows) (v1:Int) (v2 v3 v4 v5:Ovi.Rows) (v6:Bool) (v7 v8:Int):Option Res:=zp P hs call 129 k Tryz.f129 [1,1,1,1,0,1,0] [] n [(2,.d (.list 1 v0)),(3,.var 192 0),(4,.var 256 0),(9,.d (.int .i64 v1))] [(192,Blk.var [.d (.list 3 v2),.d (.list 2 v3)]),(256,Blk.var [.d (.list 2 v4),.d (.list 2 v5),.d (.bool v6),.d (.int .i64 v7),.d (.int .i64 v8)])]
theorem F129.L5.succ (k:Nat) (call:zg) (n:Nat) (v0 v1:Ovi.Rows) (v2:Int) (v3 v4 v5 v6:Ovi.Rows) (v7:Bool) (v8 v9:Int):F129.L5 k call (n+1) v0 v1 v2 v3 v4 v5 v6 v7 v8 v9=ite' (decide (v2 < ((List.length v0):Int))) (za (call 81 [.d (.list 1 v1),.d (.int .i64 v2)]) fun r21=>zi (resB 1 false 1 r21 0 0) fun b22=>ite' (inR v2 (List.length v0)) (zf (zm .i64 v0 v2.toNat 0) fun n23=>za (call 196 []) fun r24=>zf (resI .i64 1 false 1 r24 0 0) fun n25=>ite' (b22==(n23==n25)) (some ([(false,[.d (.bool false)])])) (F129.L5 k call n v0 v1 (IntKind.i64.wrap (v2+1)) v3 v4 v5 v6 v7 v8 v9)) none) (F129.L10 k call k v0 0 v3 v4 v5 v6 v7 v8 v9):=by kernel_rfl
theorem F129.L10.succ (k:Nat) (call:zg) (n:Nat) (v0:Ovi.Rows) (v1:Int) (v2 v3 v4 v5:Ovi.Rows) (v6:Bool) (v7 v8:Int):F129.L10 k call (n+1) v0 v1 v2 v3 v4 v5 v6 v7 v8=ite' (decide (v1 < ((List.length v4):Int))) (ite' (inR v1 (List.length v4)) (zf (zm .i64 v4 v1.toNat 0) fun n20=>zc (zr 1 v4 v1.toNat 1) fun l21=>za (call 90 [.agg [.d (.int .i64 n20),.d (.list 1 l21)],.d (.list 1 v0)]) fun r22=>zf (resI .i64 2 true 2 r22 0 0) fun n23=>zc (resO 3 1 2 true 2 r22 0 1) fun l24=>zi (resB 2 false 1 r22 1 0) fun b25=>ite' (!b25) (some ([(false,[.d (.bool false)])])) (za (call 158 [.agg [.d (.list 3 v2),.d (.list 2 v3)],.agg [.d (.int .i64 n23),.d (.list 1 l24)]]) fun r26=>zf (resI .i64 1 false 1 r26 0 0) fun n27=>ite' (decide (n27 < 0)) (some ([(false,[.d (.bool false)])])) (F129.L10 k call n v0 (IntKind.i64.wrap (v1+1)) v2 v3 v4 v5 v6 v7 v8))) none) (some ([(false,[.d (.bool true)])])):=by kernel_rfl
theorem F129.run (k:Nat) (a0_0 a0_1 a1_0 a1_1:Ovi.Rows) (a1_2:Bool) (a1_3 a1_4:Int) (a2:Ovi.Rows):C (k+1) 129 [.agg [.d (.list 3 a0_0),.d (.list 2 a0_1)],.agg [.d (.list 2 a1_0),.d (.list 2 a1_1),.d (.bool a1_2),.d (.int .i64 a1_3),.d (.int .i64 a1_4)],.d (.list 1 a2)]=za ((C k) 67 [.agg [.d (.list 3 a0_0),.d (.list 2 a0_1)]]) fun r10=>zi (resB 1 false 1 r10 0 0) fun b11=>ite' (!b11) (some ([(false,[.d (.bool false)])])) (za ((C k) 183 [.d (.list 3 a0_0),.agg [.d (.list 2 a1_0),.d (.list 2 a1_1),.d (.bool a1_2),.d (.int .i64 a1_3),.d (.int .i64 a1_4)]]) fun r12=>zi (resB 1 false 1 r12 0 0) fun b13=>ite' (!b13) (some ([(false,[.d (.bool false)])])) (ite' (((List.length a2):Int) != 5) (some ([(false,[.d (.bool false)])])) (za ((C k) 155 [.d (.list 2 a1_0)]) fun r14=>zc (resL 1 1 false 1 r14 0 0) fun l15=>F129.L5 k (C k) k a2 l15 0 a0_0 a0_1 a1_0 a1_1 a1_2 a1_3 a1_4))):=(crun k 129 (by kernel_rfl) Tryz.func129 rfl).trans (by kernel_rfl)
noncomputable def F134.L5 (k:Nat) (call:zg) (n:Nat) (v0 v1:Ovi.Rows) (v2 v3:Int) (v4 v5 v6 v7:Ovi.Rows) (v8:Bool) (v9 v10:Int) (v11:Ovi.Rows):Option Res:=zp P hs call 134 k Tryz.f134 [1,1,1,0,1,0] [] n [(2,.d (.list 1 v0)),(3,.var 192 0),(4,.var 256 0),(7,AV.own 100007 0),(32,.d (.list 1 v1)),(33,.d (.int .i64 v2)),(34,.d (.int .i64 v3))] [(192,Blk.var [.d (.list 3 v4),.d (.list 2 v5)]),(256,Blk.var [.d (.list 2 v6),.d (.list 2 v7),.d (.bool v8),.d (.int .i64 v9),.d (.int .i64 v10)]),(100007,Blk.arr 3 1 0 v11 (0,0,0))]
noncomputable def F134.L11 (k:Nat) (call:zg) (n:Nat) (v0 v1:Ovi.Rows) (v2 v3:Int) (v4 v5:Ovi.Rows):Option Res:=zp P hs call 134 k Tryz.f134 [1,1,1,1,0,1,0] [] n [(2,.d (.list 1 v0)),(3,.var 192 0),(47,.d (.list 2 v1)),(48,.d (.int .i64 v2)),(49,.d (.int .i64 v3))] [(192,Blk.var [.d (.list 3 v4),.d (.list 2 v5)])]
theorem F134.L5.succ (k:Nat) (call:zg) (n:Nat) (v0 v1:Ovi.Rows) (v2 v3:Int) (v4 v5 v6 v7:Ovi.Rows) (v8:Bool) (v9 v10:Int) (v11:Ovi.Rows):F134.L5 k call (n+1) v0 v1 v2 v3 v4 v5 v6 v7 v8 v9 v10 v11=ite' (decide (v3 < v2)) (ite' (inR v3 (List.length v1)) (zf (zm .i64 v1 v3.toNat 0) fun n23=>za (call 83 [.d (.list 1 v11),.d (.int .i64 v3)]) fun r24=>zi (resB 1 false 1 r24 0 0) fun b25=>ite' (!(n23 != 10)==b25) (some ([(false,[.d (.bool false)])])) (F134.L5 k call n v0 v1 v2 (IntKind.i64.wrap (v3+1)) v4 v5 v6 v7 v8 v9 v10 v11)) none) (F134.L11 k call k v0 v6 (((List.length v6):Int)) 0 v4 v5):=by kernel_rfl
theorem F134.L11.succ (k:Nat) (call:zg) (n:Nat) (v0 v1:Ovi.Rows) (v2 v3:Int) (v4 v5:Ovi.Rows):F134.L11 k call (n+1) v0 v1 v2 v3 v4 v5=ite' (decide (v3 < v2)) (ite' (inR v3 (List.length v1)) (zf (zm .i64 v1 v3.toNat 0) fun n17=>zc (zr 1 v1 v3.toNat 1) fun l18=>za (call 97 [.agg [.d (.int .i64 n17),.d (.list 1 l18)],.d (.list 1 v0)]) fun r19=>zf (resI .i64 2 true 2 r19 0 0) fun n20=>zc (resO 3 1 2 true 2 r19 0 1) fun l21=>zi (resB 2 false 1 r19 1 0) fun b22=>ite' (!b22) (some ([(false,[.d (.bool false)])])) (za (call 202 [.d (.list 2 v5),.agg [.d (.int .i64 n20),.d (.list 1 l21)]]) fun r23=>zi (resB 1 false 1 r23 0 0) fun b24=>ite' (!b24) (some ([(false,[.d (.bool false)])])) (F134.L11 k call n v0 v1 v2 (IntKind.i64.wrap (v3+1)) v4 v5))) none) (some ([(false,[.d (.bool true)])])):=by kernel_rfl
theorem F134.run (k:Nat) (a0_0 a0_1 a1_0 a1_1:Ovi.Rows) (a1_2:Bool) (a1_3 a1_4:Int) (a2:Ovi.Rows):C (k+1) 134 [.agg [.d (.list 3 a0_0),.d (.list 2 a0_1)],.agg [.d (.list 2 a1_0),.d (.list 2 a1_1),.d (.bool a1_2),.d (.int .i64 a1_3),.d (.int .i64 a1_4)],.d (.list 1 a2)]=za ((C k) 100 [.agg [.d (.list 3 a0_0),.d (.list 2 a0_1)]]) fun r10=>zi (resB 1 false 1 r10 0 0) fun b11=>ite' (!b11) (some ([(false,[.d (.bool false)])])) (za ((C k) 189 [.d (.list 3 a0_0),.agg [.d (.list 2 a1_0),.d (.list 2 a1_1),.d (.bool a1_2),.d (.int .i64 a1_3),.d (.int .i64 a1_4)]]) fun r12=>zi (resB 1 false 1 r12 0 0) fun b13=>ite' (!b13) (some ([(false,[.d (.bool false)])])) (ite' (((List.length a2):Int) != 5) (some ([(false,[.d (.bool false)])])) (za ((C k) 161 [.d (.list 2 a1_0)]) fun r14=>zc (resO 3 1 1 false 1 r14 0 0) fun l15=>F134.L5 k (C k) k a2 a2 (((List.length a2):Int)) 0 a0_0 a0_1 a1_0 a1_1 a1_2 a1_3 a1_4 l15))):=(crun k 134 (by kernel_rfl) Tryz.func134 rfl).trans (by kernel_rfl)
theorem F140.run (k:Nat) (a0_0 a0_1 a1:Ovi.Rows):C (k+1) 140 [.agg [.d (.list 3 a0_0),.d (.list 2 a0_1)],.d (.list 5 a1)]=za ((C k) 208 [.agg [.d (.list 3 a0_0),.d (.list 2 a0_1)],.d (.list 5 a1),.d (.list 0 [])]) fun r5=>zc (resL 3 2 true 4 r5 0 0) fun l6=>zc (resL 2 2 true 4 r5 0 1) fun l7=>zf (resI .i64 2 true 4 r5 0 2) fun n8=>zc (resL 2 2 true 4 r5 0 3) fun l9=>zi (resB 2 false 1 r5 1 0) fun b10=>some ([(true,[.d (.list 3 l6),.d (.list 2 l7),.d (.int .i64 n8),.d (.list 2 l9)]),(false,[.d (.bool b10)])]):=(crun k 140 (by kernel_rfl) Tryz.func140 rfl).trans (by kernel_rfl)
theorem F141.run (k:Nat) (a0_0 a0_1 a1:Ovi.Rows):C (k+1) 141 [.agg [.d (.list 3 a0_0),.d (.list 2 a0_1)],.d (.list 5 a1)]=za ((C k) 209 [.agg [.d (.list 3 a0_0),.d (.list 2 a0_1)],.d (.list 5 a1),.d (.list 0 [])]) fun r5=>zc (resL 3 2 true 4 r5 0 0) fun l6=>zc (resL 2 2 true 4 r5 0 1) fun l7=>zf (resI .i64 2 true 4 r5 0 2) fun n8=>zc (resL 2 2 true 4 r5 0 3) fun l9=>zi (resB 2 false 1 r5 1 0) fun b10=>some ([(true,[.d (.list 3 l6),.d (.list 2 l7),.d (.int .i64 n8),.d (.list 2 l9)]),(false,[.d (.bool b10)])]):=(crun k 141 (by kernel_rfl) Tryz.func141 rfl).trans (by kernel_rfl)
theorem F142.run (k:Nat) (a0_0:Int) (a0_1:Ovi.Rows) (a1:Int):C (k+1) 142 [.agg [.d (.int .i64 a0_0),.d (.list 1 a0_1)],.d (.int .i64 a1)]=za ((C k) 87 [.d (.list 1 a0_1),.d (.int .i64 a1)]) fun r5=>zf (resI .i64 1 false 1 r5 0 0) fun n6=>ite' (decide (n6 < 0)) (some ([(false,[.d (.int .i64 (-1))])])) (some ([(false,[.d (.int .i64 n6)])])):=(crun k 142 (by kernel_rfl) Tryz.func142 rfl).trans (by kernel_rfl)
noncomputable def F143.L4 (k:Nat) (call:zg) (n:Nat) (v0 v1:Int) (v2:Ovi.Rows):Option Res:=zp P hs call 143 k Tryz.f143 [1,1,0,1,0] [] n [(3,.var 192 0),(5,.d (.int .i64 v0))] [(192,Blk.var [.d (.int .i64 v1),.d (.list 1 v2)])]
theorem F143.L4.succ (k:Nat) (call:zg) (n:Nat) (v0 v1:Int) (v2:Ovi.Rows):F143.L4 k call (n+1) v0 v1 v2=ite' (decide (v0 < ((List.length v2):Int))) (ite' (inR v0 (List.length v2)) (zf (zm .i64 v2 v0.toNat 0) fun n9=>za (call 157 [.d (.int .i64 n9)]) fun r10=>zi (resB 1 false 1 r10 0 0) fun b11=>ite' (!b11) (some ([(false,[.d (.bool false)])])) (F143.L4 k call n (IntKind.i64.wrap (v0+1)) v1 v2)) none) (some ([(false,[.d (.bool true)])])):=by kernel_rfl
theorem F143.run (k:Nat) (a0:Ovi.Rows) (a1_0:Int) (a1_1:Ovi.Rows):C (k+1) 143 [.d (.list 3 a0),.agg [.d (.int .i64 a1_0),.d (.list 1 a1_1)]]=za ((C k) 146 [.d (.list 3 a0)]) fun r5=>zi (resB 1 false 1 r5 0 0) fun b6=>ite' (!b6) (some ([(false,[.d (.bool false)])])) (za ((C k) 68 [.d (.int .i64 a1_0),.d (.int .i64 0),.d (.int .i64 (IntKind.i64.wrap (((List.length a0):Int) - 1)))]) fun r7=>zi (resB 1 false 1 r7 0 0) fun b8=>ite' (!b8) (some ([(false,[.d (.bool false)])])) (ite' (inR a1_0 (List.length a0)) (zf (zm .i64 a0 a1_0.toNat 1) fun n9=>ite' (((List.length a1_1):Int) != n9) (some ([(false,[.d (.bool false)])])) (F143.L4 k (C k) k 0 a1_0 a1_1)) none)):=(crun k 143 (by kernel_rfl) Tryz.func143 rfl).trans (by kernel_rfl)
theorem F144.run (k:Nat) (a0_0:Int) (a0_1:Ovi.Rows) (a1_0:Int) (a1_1:Ovi.Rows):C (k+1) 144 [.agg [.d (.int .i64 a0_0),.d (.list 1 a0_1)],.agg [.d (.int .i64 a1_0),.d (.list 1 a1_1)]]=ite' (decide (a0_0 < a1_0)) (some ([(false,[.d (.int .i64 (-1))])])) (ite' (decide (a0_0 > a1_0)) (some ([(false,[.d (.int .i64 1)])])) (za ((C k) 179 [.d (.list 1 a0_1),.d (.list 1 a1_1)]) fun r6=>zf (resI .i64 1 false 1 r6 0 0) fun n7=>some ([(false,[.d (.int .i64 n7)])]))):=(crun k 144 (by kernel_rfl) Tryz.func144 rfl).trans (by kernel_rfl)
noncomputable def F145.L3 (k:Nat) (call:zg) (n:Nat) (v0:List (List D)) (v1 v2:Int) (v3:Ovi.Rows):Option Res:=zp P hs call 145 k Tryz.f145 [1,1,0,1,0] [] n [(1,.var 64 0),(3,.d (.list 1 v0)),(4,.d (.int .i64 v1))] [(64,Blk.var [.d (.int .i64 v2),.d (.list 1 v3)])]
theorem F145.L3.succ (k:Nat) (call:zg) (n:Nat) (v0:List (List D)) (v1 v2:Int) (v3:Ovi.Rows):F145.L3 k call (n+1) v0 v1 v2 v3=ite' (decide (v1 < ((List.length v3):Int))) (ite' (inR v1 (List.length v3)) (zf (zm .i64 v3 v1.toNat 0) fun n9=>za (call 80 [.d (.int .i64 n9)]) fun r10=>zf (resI .i64 2 false 1 r10 0 0) fun n11=>zi (resB 2 false 1 r10 1 0) fun b12=>ite' b12 (za (call 147 [.d (.list 1 v0),.d (.int .i64 n11)]) fun r13=>zc (resL 1 1 false 1 r13 0 0) fun l14=>F145.L3 k call n l14 (IntKind.i64.wrap (v1+1)) v2 v3) (F145.L3 k call n v0 (IntKind.i64.wrap (v1+1)) v2 v3)) none) (some ([(false,[.d (.list 1 v0)])])):=by kernel_rfl
theorem F145.run (k:Nat) (a0_0:Int) (a0_1:Ovi.Rows):C (k+1) 145 [.agg [.d (.int .i64 a0_0),.d (.list 1 a0_1)]]=F145.L3 k (C k) k [] 0 a0_0 a0_1:=(crun k 145 (by kernel_rfl) Tryz.func145 rfl).trans (by kernel_rfl)
noncomputable def F146.L2 (k:Nat) (call:zg) (n:Nat) (v0:Ovi.Rows) (v1:Int):Option Res:=zp P hs call 146 k Tryz.f146 [1,0,1,0] [] n [(0,.d (.list 3 v0)),(3,.d (.int .i64 v1))] []
theorem F146.L2.succ (k:Nat) (call:zg) (n:Nat) (v0:Ovi.Rows) (v1:Int):F146.L2 k call (n+1) v0 v1=ite' (decide (v1 < ((List.length v0):Int))) (ite' (inR v1 (List.length v0)) (zbg (zbh v0 v1.toNat 0) fun s6=>zf (zm .i64 v0 v1.toNat 1) fun n7=>zi (zam v0 v1.toNat 2) fun b8=>za (call 210 [.agg [.d (.str s6),.d (.int .i64 n7),.d (.bool b8)]]) fun r9=>zi (resB 1 false 1 r9 0 0) fun b10=>ite' (!b10) (some ([(false,[.d (.bool false)])])) (ite' (decide (v1 > 0)) (ite' (inR (IntKind.i64.wrap (v1 - 1)) (List.length v0)) (zbg (zbh v0 (IntKind.i64.wrap (v1 - 1)).toNat 0) fun s11=>ite' (inR v1 (List.length v0)) (zbg (zbh v0 v1.toNat 0) fun s12=>ite' (!zaR s11 s12) (some ([(false,[.d (.bool false)])])) (F146.L2 k call n v0 (IntKind.i64.wrap (v1+1)))) none) none) (F146.L2 k call n v0 (IntKind.i64.wrap (v1+1))))) none) (some ([(false,[.d (.bool (decide (((List.length v0):Int)≤6)))])])):=by kernel_rfl
theorem F146.run (k:Nat) (a0:Ovi.Rows):C (k+1) 146 [.d (.list 3 a0)]=F146.L2 k (C k) k a0 0:=(crun k 146 (by kernel_rfl) Tryz.func146 rfl).trans (by kernel_rfl)
noncomputable def F147.L2 (k:Nat) (call:zg) (n:Nat) (v0:Ovi.Rows) (v1 v2:Int):Option Res:=zp P hs call 147 k Tryz.f147 [1,1,0,0] [] n [(0,.d (.list 1 v0)),(1,.d (.int .i64 v1)),(5,.d (.int .i64 v2))] []
theorem F147.L2.succ (k:Nat) (call:zg) (n:Nat) (v0:Ovi.Rows) (v1 v2:Int):F147.L2 k call (n+1) v0 v1 v2=ite' (decide (v2 < ((List.length v0):Int))) (ite' (inR v2 (List.length v0)) (zf (zm .i64 v0 v2.toNat 0) fun n8=>ite' (decide (n8 < v1)) (F147.L2 k call n v0 v1 (IntKind.i64.wrap (v2+1))) (ite' (decide (v2 < ((List.length v0):Int))) (ite' (inR v2 (List.length v0)) (zf (zm .i64 v0 v2.toNat 0) fun n9=>ite' (n9==v1) (some ([(false,[.d (.list 1 v0)])])) (ite' (inS v2 ((List.length v0):Int) (List.length v0)) (ite' (fits ([[D.int .i64 v1]].length+(List.drop v2.toNat v0).length)) (ite' (inS 0 v2 (List.length v0)) (ite' (fits (List.take v2.toNat v0).length) (ite' (fits ((List.take v2.toNat v0).length+List.length ([[D.int .i64 v1]]++List.drop v2.toNat v0))) (some ([(false,[.row 3 1 (List.take v2.toNat v0++([[D.int .i64 v1]]++List.drop v2.toNat v0))])])) none) none) none) none) none)) none) (ite' (inS v2 ((List.length v0):Int) (List.length v0)) (ite' (fits ([[D.int .i64 v1]].length+(List.drop v2.toNat v0).length)) (ite' (inS 0 v2 (List.length v0)) (ite' (fits (List.take v2.toNat v0).length) (ite' (fits ((List.take v2.toNat v0).length+List.length ([[D.int .i64 v1]]++List.drop v2.toNat v0))) (some ([(false,[.row 3 1 (List.take v2.toNat v0++([[D.int .i64 v1]]++List.drop v2.toNat v0))])])) none) none) none) none) none))) none) (ite' (decide (v2 < ((List.length v0):Int))) (ite' (inR v2 (List.length v0)) (zf (zm .i64 v0 v2.toNat 0) fun n8=>ite' (n8==v1) (some ([(false,[.d (.list 1 v0)])])) (ite' (inS v2 ((List.length v0):Int) (List.length v0)) (ite' (fits ([[D.int .i64 v1]].length+(List.drop v2.toNat v0).length)) (ite' (inS 0 v2 (List.length v0)) (ite' (fits (List.take v2.toNat v0).length) (ite' (fits ((List.take v2.toNat v0).length+List.length ([[D.int .i64 v1]]++List.drop v2.toNat v0))) (some ([(false,[.row 3 1 (List.take v2.toNat v0++([[D.int .i64 v1]]++List.drop v2.toNat v0))])])) none) none) none) none) none)) none) (ite' (inS v2 ((List.length v0):Int) (List.length v0)) (ite' (fits ([[D.int .i64 v1]].length+(List.drop v2.toNat v0).length)) (ite' (inS 0 v2 (List.length v0)) (ite' (fits (List.take v2.toNat v0).length) (ite' (fits ((List.take v2.toNat v0).length+List.length ([[D.int .i64 v1]]++List.drop v2.toNat v0))) (some ([(false,[.row 3 1 (List.take v2.toNat v0++([[D.int .i64 v1]]++List.drop v2.toNat v0))])])) none) none) none) none) none)):=by kernel_rfl
theorem F147.run (k:Nat) (a0:Ovi.Rows) (a1:Int):C (k+1) 147 [.d (.list 1 a0),.d (.int .i64 a1)]=F147.L2 k (C k) k a0 a1 0:=(crun k 147 (by kernel_rfl) Tryz.func147 rfl).trans (by kernel_rfl)
noncomputable def F148.L4 (k:Nat) (call:zg) (n:Nat) (v0:Int) (v1 v2:Ovi.Rows):Option Res:=zp P hs call 148 k Tryz.f148 [1,1,0,1,0] [] n [(1,.var 64 0),(3,.d (.int .i64 v0))] [(64,Blk.var [.d (.list 1 v1),.d (.list 1 v2)])]
theorem F148.L4.succ (k:Nat) (call:zg) (n:Nat) (v0:Int) (v1 v2:Ovi.Rows):F148.L4 k call (n+1) v0 v1 v2=ite' (decide (v0 < ((List.length v1):Int))) (ite' (inR v0 (List.length v1)) (zf (zm .i64 v1 v0.toNat 0) fun n8=>za (call 68 [.d (.int .i64 n8),.d (.int .i64 0),.d (.int .i64 39)]) fun r9=>zi (resB 1 false 1 r9 0 0) fun b10=>ite' (!b10) (some ([(false,[.d (.bool false)])])) (ite' (decide (v0 > 0)) (ite' (inR v0 (List.length v1)) (zf (zm .i64 v1 v0.toNat 0) fun n11=>ite' (inR (IntKind.i64.wrap (v0 - 1)) (List.length v1)) (zf (zm .i64 v1 (IntKind.i64.wrap (v0 - 1)).toNat 0) fun n12=>ite' (decide (n11≤n12)) (some ([(false,[.d (.bool false)])])) (ite' (inR v0 (List.length v2)) (zf (zm .i64 v2 v0.toNat 0) fun n13=>za (call 157 [.d (.int .i64 n13)]) fun r14=>zi (resB 1 false 1 r14 0 0) fun b15=>ite' (!b15) (some ([(false,[.d (.bool false)])])) (F148.L4 k call n (IntKind.i64.wrap (v0+1)) v1 v2)) none)) none) none) (ite' (inR v0 (List.length v2)) (zf (zm .i64 v2 v0.toNat 0) fun n11=>za (call 157 [.d (.int .i64 n11)]) fun r12=>zi (resB 1 false 1 r12 0 0) fun b13=>ite' (!b13) (some ([(false,[.d (.bool false)])])) (F148.L4 k call n (IntKind.i64.wrap (v0+1)) v1 v2)) none))) none) (some ([(false,[.d (.bool true)])])):=by kernel_rfl
theorem F148.run (k:Nat) (a0_0 a0_1:Ovi.Rows):C (k+1) 148 [.agg [.d (.list 1 a0_0),.d (.list 1 a0_1)]]=ite' (((List.length a0_0):Int) != ((List.length a0_1):Int)) (some ([(false,[.d (.bool false)])])) (F148.L4 k (C k) k 0 a0_0 a0_1):=(crun k 148 (by kernel_rfl) Tryz.func148 rfl).trans (by kernel_rfl)
noncomputable def F149.L3 (k:Nat) (call:zg) (n:Nat) (v0:Int) (v1 v2:Ovi.Rows) (v3:Int) (v4:Ovi.Rows) (v5:Int) (v6:List (List D)) (v7:Int) (v8:List (List D)):Option Res:=zp P hs call 149 k Tryz.f149 [1,1,0,1,0] [] n [(2,.var 128 0),(3,.var 192 0),(4,.var 256 0),(5,.var 320 0),(6,.d (.int .i64 v0))] [(128,Blk.var [.d (.list 1 v1),.d (.list 1 v2)]),(192,Blk.var [.d (.int .i64 v3),.d (.list 1 v4)]),(256,Blk.var [.d (.int .i64 v5),AV.own 200065 0]),(200065,Blk.arr 3 1 0 v6 (0,0,0)),(320,Blk.var [.d (.int .i64 v7),AV.own 200081 0]),(200081,Blk.arr 3 1 0 v8 (0,0,0))]
theorem F149.L3.succ (k:Nat) (call:zg) (n:Nat) (v0:Int) (v1 v2:Ovi.Rows) (v3:Int) (v4:Ovi.Rows) (v5:Int) (v6:List (List D)) (v7:Int) (v8:List (List D)):F149.L3 k call (n+1) v0 v1 v2 v3 v4 v5 v6 v7 v8=ite' (decide (v0 < ((List.length v4):Int))) (ite' (inR v0 (List.length v4)) (zf (zm .i64 v4 v0.toNat 0) fun n16=>za (call 211 [.agg [.d (.list 1 v1),.d (.list 1 v2)],.d (.int .i64 n16)]) fun r17=>zf (resI .i64 1 false 1 r17 0 0) fun n18=>ite' (fits (v8.length+[[D.int .i64 n18]].length)) (F149.L3 k call n (IntKind.i64.wrap (v0+1)) v1 v2 v3 v4 v5 v6 v7 (v8++[[D.int .i64 n18]])) none) none) (some ([(true,[.d (.int .i64 v7),.row 3 1 v8])])):=by kernel_rfl
theorem F149.run (k:Nat) (a0_0 a0_1:Ovi.Rows) (a1_0:Int) (a1_1:Ovi.Rows):C (k+1) 149 [.agg [.d (.list 1 a0_0),.d (.list 1 a0_1)],.agg [.d (.int .i64 a1_0),.d (.list 1 a1_1)]]=F149.L3 k (C k) k 0 a0_0 a0_1 a1_0 a1_1 0 [] a1_0 []:=(crun k 149 (by kernel_rfl) Tryz.func149 rfl).trans (by kernel_rfl)
theorem F150.run (k:Nat) (a0_0:Int) (a0_1:Ovi.Rows):C (k+1) 150 [.agg [.d (.int .i64 a0_0),.d (.list 1 a0_1)]]=za ((C k) 57 [.d (.list 1 a0_1)]) fun r4=>zc (resO 3 1 1 false 1 r4 0 0) fun l5=>some ([(true,[.d (.int .i64 a0_0),.row 3 1 l5])]):=(crun k 150 (by kernel_rfl) Tryz.func150 rfl).trans (by kernel_rfl)
noncomputable def F151.L3 (k:Nat) (call:zg) (n:Nat) (v0:Ovi.Rows) (v1 v2:Int) (v3:List (List D)):Option Res:=zp P hs call 151 k Tryz.f151 [1,1,0,1,0] [] n [(3,AV.own 100003 0),(8,.d (.list 2 v0)),(9,.d (.int .i64 v1)),(10,.d (.int .i64 v2))] [(100003,Blk.arr 3 1 0 v3 (0,0,0))]
theorem F151.L3.succ (k:Nat) (call:zg) (n:Nat) (v0:Ovi.Rows) (v1 v2:Int) (v3:List (List D)):F151.L3 k call (n+1) v0 v1 v2 v3=ite' (decide (v2 < v1)) (ite' (inR v2 (List.length v0)) (zf (zm .i64 v0 v2.toNat 0) fun n9=>zc (zr 1 v0 v2.toNat 1) fun l10=>ite' (fits (v3.length+List.length l10)) (F151.L3 k call n v0 v1 (IntKind.i64.wrap (v2+1)) (v3++l10)) none) none) (za (call 212 [.d (.list 1 v3)]) fun r9=>zc (resO 3 1 1 false 1 r9 0 0) fun l10=>some ([(false,[.row 3 1 l10])])):=by kernel_rfl
theorem F151.run (k:Nat) (a0_0 a0_1:Ovi.Rows):C (k+1) 151 [.agg [.d (.list 3 a0_0),.d (.list 2 a0_1)]]=F151.L3 k (C k) k a0_1 (((List.length a0_1):Int)) 0 []:=(crun k 151 (by kernel_rfl) Tryz.func151 rfl).trans (by kernel_rfl)
noncomputable def F152.L5 (k:Nat) (call:zg) (n:Nat) (v0:Ovi.Rows) (v1 v2:Int) (v3 v4:Ovi.Rows) (v5 v6:List (List D)) (v7 v8:Ovi.Rows):Option Res:=zp P hs call 152 k Tryz.f152 [1,1,1,0,1,0] [] n [(2,.var 128 0),(4,.var 256 0),(6,.var 384 0),(21,.d (.list 2 v0)),(22,.d (.int .i64 v1)),(23,.d (.int .i64 v2))] [(128,Blk.var [.d (.list 1 v3),.d (.list 1 v4)]),(256,Blk.var [AV.own 200064 0,AV.own 200065 0]),(200064,Blk.arr 133 3 0 v5 (0,0,0)),(200065,Blk.arr 118 2 0 v6 (1,0,0)),(384,Blk.var [AV.own 200096 0,AV.own 200097 0]),(200096,Blk.arr 133 3 0 v7 (0,0,0)),(200097,Blk.arr 118 2 0 v8 (1,0,0))]
theorem F152.L5.succ (k:Nat) (call:zg) (n:Nat) (v0:Ovi.Rows) (v1 v2:Int) (v3 v4:Ovi.Rows) (v5 v6:List (List D)) (v7 v8:Ovi.Rows):F152.L5 k call (n+1) v0 v1 v2 v3 v4 v5 v6 v7 v8=ite' (decide (v2 < v1)) (ite' (inR v2 (List.length v0)) (zf (zm .i64 v0 v2.toNat 0) fun n16=>zc (zr 1 v0 v2.toNat 1) fun l17=>za (call 214 [.agg [.d (.list 1 v3),.d (.list 1 v4)],.agg [.d (.int .i64 n16),.d (.list 1 l17)]]) fun r18=>zf (resI .i64 1 true 2 r18 0 0) fun n19=>zc (resO 3 1 1 true 2 r18 0 1) fun l20=>ite' (inR v2 (List.length v8)) (F152.L5 k call n v0 v1 (IntKind.i64.wrap (v2+1)) v3 v4 v5 v6 v7 (rowsSet v8 v2.toNat 0 [D.int .i64 n19,D.list 1 l20])) none) none) (za (call 99 [.d (.list 2 v8)]) fun r16=>zc (resF 118 2 1 1 false 1 r16 0 0) fun l17=>some ([(true,[.row 133 3 v7,.frow 118 2 1 l17]),(false,[.d (.bool true)])])):=by kernel_rfl
theorem F152.run (k:Nat) (a0_0 a0_1 a1_0 a1_1:Ovi.Rows):C (k+1) 152 [.agg [.d (.list 1 a0_0),.d (.list 1 a0_1)],.agg [.d (.list 3 a1_0),.d (.list 2 a1_1)]]=za ((C k) 213 [.agg [.d (.list 1 a0_0),.d (.list 1 a0_1)]]) fun r6=>zi (resB 1 false 1 r6 0 0) fun b7=>ite' (!b7) (some ([(true,[.nil,.nil]),(false,[.d (.bool false)])])) (za ((C k) 100 [.agg [.d (.list 3 a1_0),.d (.list 2 a1_1)]]) fun r8=>zi (resB 1 false 1 r8 0 0) fun b9=>ite' (!b9) (some ([(true,[.nil,.nil]),(false,[.d (.bool false)])])) (za ((C k) 98 [.agg [.d (.list 3 a1_0),.d (.list 2 a1_1)]]) fun r10=>zc (resO 133 3 1 true 2 r10 0 0) fun l11=>zc (resF 118 2 1 1 true 2 r10 0 1) fun l12=>F152.L5 k (C k) k a1_1 (((List.length a1_1):Int)) 0 a0_0 a0_1 [] [] l11 l12)):=(crun k 152 (by kernel_rfl) Tryz.func152 rfl).trans (by kernel_rfl)
theorem F153.run (k:Nat) (a0_0:Int) (a0_1:Ovi.Rows) (a1_0:Int) (a1_1:Ovi.Rows):C (k+1) 153 [.agg [.d (.int .i64 a0_0),.d (.list 1 a0_1)],.agg [.d (.int .i64 a1_0),.d (.list 1 a1_1)]]=ite' (a0_0 != a1_0) (some ([(false,[.d (.bool false)])])) (za ((C k) 60 [.d (.list 1 a0_1),.d (.list 1 a1_1)]) fun r6=>zi (resB 1 false 1 r6 0 0) fun b7=>ite' (!b7) (some ([(false,[.d (.bool false)])])) (some ([(false,[.d (.bool true)])]))):=(crun k 153 (by kernel_rfl) Tryz.func153 rfl).trans (by kernel_rfl)
theorem F154.run (k:Nat) (a0_0:Int) (a0_1:Ovi.Rows) (a1:Int):C (k+1) 154 [.agg [.d (.int .i64 a0_0),.d (.list 1 a0_1)],.d (.int .i64 a1)]=za ((C k) 87 [.d (.list 1 a0_1),.d (.int .i64 a1)]) fun r5=>zf (resI .i64 1 false 1 r5 0 0) fun n6=>ite' (decide (n6 < 0)) (some ([(false,[.d (.int .i64 (-1))])])) (some ([(false,[.d (.int .i64 n6)])])):=(crun k 154 (by kernel_rfl) Tryz.func154 rfl).trans (by kernel_rfl)
noncomputable def F155.L3 (k:Nat) (call:zg) (n:Nat) (v0:Ovi.Rows) (v1:List (List D)) (v2:Int):Option Res:=zp P hs call 155 k Tryz.f155 [1,1,0,1,0] [] n [(0,.d (.list 2 v0)),(3,.d (.list 1 v1)),(4,.d (.int .i64 v2))] []
noncomputable def F155.L6 (k:Nat) (call:zg) (k3 n:Nat) (v0:Ovi.Rows) (v1:List (List D)) (v2 v3:Int):Option Res:=zp P hs call 155 k Tryz.f155 [1,1,0,1,0,0,1,0,0,1,0] [k3] n [(0,.d (.list 2 v0)),(3,.d (.list 1 v1)),(4,.d (.int .i64 v2)),(5,.d (.int .i64 v3))] []
theorem F155.L3.succ (k:Nat) (call:zg) (n:Nat) (v0:Ovi.Rows) (v1:List (List D)) (v2:Int):F155.L3 k call (n+1) v0 v1 v2=ite' (decide (v2 < ((List.length v0):Int))) (F155.L6 k call n k v0 v1 v2 0) (some ([(false,[.d (.list 1 v1)])])):=by kernel_rfl
theorem F155.L6.succ (k:Nat) (call:zg) (k3 n:Nat) (v0:Ovi.Rows) (v1:List (List D)) (v2 v3:Int):F155.L6 k call k3 (n+1) v0 v1 v2 v3=ite' (inR v2 (List.length v0)) (zc (zr 1 v0 v2.toNat 1) fun l9=>ite' (decide (v3 < ((List.length l9):Int))) (ite' (inR v2 (List.length v0)) (zc (zr 1 v0 v2.toNat 1) fun l10=>ite' (inR v3 (List.length l10)) (zf (zm .i64 l10 v3.toNat 0) fun n11=>ite' (decide (n11 ≥ 0)) (ite' (inR v2 (List.length v0)) (zc (zr 1 v0 v2.toNat 1) fun l12=>ite' (inR v3 (List.length l12)) (zf (zm .i64 l12 v3.toNat 0) fun n13=>za (call 147 [.d (.list 1 v1),.d (.int .i64 n13)]) fun r14=>zc (resL 1 1 false 1 r14 0 0) fun l15=>F155.L6 k call k3 n v0 l15 v2 (IntKind.i64.wrap (v3+1))) none) none) (F155.L6 k call k3 n v0 v1 v2 (IntKind.i64.wrap (v3+1)))) none) none) (F155.L3 k call k3 v0 v1 (IntKind.i64.wrap (v2+1)))) none:=by kernel_rfl
theorem F155.run (k:Nat) (a0:Ovi.Rows):C (k+1) 155 [.d (.list 2 a0)]=F155.L3 k (C k) k a0 [] 0:=(crun k 155 (by kernel_rfl) Tryz.func155 rfl).trans (by kernel_rfl)
noncomputable def F156.L4 (k:Nat) (call:zg) (n:Nat) (v0 v1:Int) (v2:Ovi.Rows):Option Res:=zp P hs call 156 k Tryz.f156 [1,1,0,1,0] [] n [(3,.var 192 0),(5,.d (.int .i64 v0))] [(192,Blk.var [.d (.int .i64 v1),.d (.list 1 v2)])]
theorem F156.L4.succ (k:Nat) (call:zg) (n:Nat) (v0 v1:Int) (v2:Ovi.Rows):F156.L4 k call (n+1) v0 v1 v2=ite' (decide (v0 < ((List.length v2):Int))) (ite' (inR v0 (List.length v2)) (zf (zm .i64 v2 v0.toNat 0) fun n9=>za (call 68 [.d (.int .i64 n9),.d (.int .i64 (-10)),.d (.int .i64 4)]) fun r10=>zi (resB 1 false 1 r10 0 0) fun b11=>ite' (!b11) (some ([(false,[.d (.bool false)])])) (F156.L4 k call n (IntKind.i64.wrap (v0+1)) v1 v2)) none) (some ([(false,[.d (.bool true)])])):=by kernel_rfl
theorem F156.run (k:Nat) (a0:Ovi.Rows) (a1_0:Int) (a1_1:Ovi.Rows):C (k+1) 156 [.d (.list 3 a0),.agg [.d (.int .i64 a1_0),.d (.list 1 a1_1)]]=za ((C k) 146 [.d (.list 3 a0)]) fun r5=>zi (resB 1 false 1 r5 0 0) fun b6=>ite' (!b6) (some ([(false,[.d (.bool false)])])) (za ((C k) 68 [.d (.int .i64 a1_0),.d (.int .i64 0),.d (.int .i64 (IntKind.i64.wrap (((List.length a0):Int) - 1)))]) fun r7=>zi (resB 1 false 1 r7 0 0) fun b8=>ite' (!b8) (some ([(false,[.d (.bool false)])])) (ite' (inR a1_0 (List.length a0)) (zf (zm .i64 a0 a1_0.toNat 1) fun n9=>ite' (((List.length a1_1):Int) != n9) (some ([(false,[.d (.bool false)])])) (F156.L4 k (C k) k 0 a1_0 a1_1)) none)):=(crun k 156 (by kernel_rfl) Tryz.func156 rfl).trans (by kernel_rfl)
theorem F157.run (k:Nat) (a0:Int):C (k+1) 157 [.d (.int .i64 a0)]=za ((C k) 80 [.d (.int .i64 a0)]) fun r3=>zf (resI .i64 2 false 1 r3 0 0) fun n4=>zi (resB 2 false 1 r3 1 0) fun b5=>ite' b5 (some ([(false,[.d (.bool true)])])) (za ((C k) 68 [.d (.int .i64 a0),.d (.int .i64 0),.d (.int .i64 9)]) fun r6=>zi (resB 1 false 1 r6 0 0) fun b7=>some ([(false,[.d (.bool b7)])])):=(crun k 157 (by kernel_rfl) Tryz.func157 rfl).trans (by kernel_rfl)
noncomputable def F158.L2 (k:Nat) (call:zg) (n:Nat) (v0:Int) (v1 v2:Ovi.Rows) (v3:Int) (v4:Ovi.Rows):Option Res:=zp P hs call 158 k Tryz.f158 [1,0,1,0] [] n [(2,.var 128 0),(3,.var 192 0),(5,.d (.int .i64 v0))] [(128,Blk.var [.d (.list 3 v1),.d (.list 2 v2)]),(192,Blk.var [.d (.int .i64 v3),.d (.list 1 v4)])]
theorem F158.L2.succ (k:Nat) (call:zg) (n:Nat) (v0:Int) (v1 v2:Ovi.Rows) (v3:Int) (v4:Ovi.Rows):F158.L2 k call (n+1) v0 v1 v2 v3 v4=ite' (decide (v0 < ((List.length v2):Int))) (ite' (inR v0 (List.length v2)) (zf (zm .i64 v2 v0.toNat 0) fun n12=>zc (zr 1 v2 v0.toNat 1) fun l13=>za (call 144 [.agg [.d (.int .i64 n12),.d (.list 1 l13)],.agg [.d (.int .i64 v3),.d (.list 1 v4)]]) fun r14=>zf (resI .i64 1 false 1 r14 0 0) fun n15=>ite' (n15==0) (some ([(false,[.d (.int .i64 v0)])])) (F158.L2 k call n (IntKind.i64.wrap (v0+1)) v1 v2 v3 v4)) none) (some ([(false,[.d (.int .i64 (-1))])])):=by kernel_rfl
theorem F158.run (k:Nat) (a0_0 a0_1:Ovi.Rows) (a1_0:Int) (a1_1:Ovi.Rows):C (k+1) 158 [.agg [.d (.list 3 a0_0),.d (.list 2 a0_1)],.agg [.d (.int .i64 a1_0),.d (.list 1 a1_1)]]=F158.L2 k (C k) k 0 a0_0 a0_1 a1_0 a1_1:=(crun k 158 (by kernel_rfl) Tryz.func158 rfl).trans (by kernel_rfl)
theorem F159.run (k:Nat) (a0_0:Int) (a0_1:Ovi.Rows):C (k+1) 159 [.agg [.d (.int .i64 a0_0),.d (.list 1 a0_1)]]=ite' (fits (List.length a0_1)) (some ([(true,[.d (.int .i64 a0_0),.row 3 1 a0_1])])) none:=(crun k 159 (by kernel_rfl) Tryz.func159 rfl).trans (by kernel_rfl)
theorem F160.run (k:Nat) (a0_0:Int) (a0_1:Ovi.Rows):C (k+1) 160 [.agg [.d (.int .i64 a0_0),.d (.list 1 a0_1)]]=za ((C k) 57 [.d (.list 1 a0_1)]) fun r4=>zc (resO 3 1 1 false 1 r4 0 0) fun l5=>some ([(true,[.d (.int .i64 a0_0),.row 3 1 l5])]):=(crun k 160 (by kernel_rfl) Tryz.func160 rfl).trans (by kernel_rfl)
noncomputable def F161.L3 (k:Nat) (call:zg) (n:Nat) (v0:Ovi.Rows) (v1 v2:Int) (v3:List (List D)):Option Res:=zp P hs call 161 k Tryz.f161 [1,1,0,1,0] [] n [(3,AV.own 100003 0),(9,.d (.list 2 v0)),(10,.d (.int .i64 v1)),(11,.d (.int .i64 v2))] [(100003,Blk.arr 3 1 0 v3 (0,0,0))]
noncomputable def F161.L6 (k:Nat) (call:zg) (k3 n:Nat) (v0:Ovi.Rows) (v1 v2:Int) (v3:Ovi.Rows) (v4 v5:Int) (v6:List (List D)):Option Res:=zp P hs call 161 k Tryz.f161 [1,1,0,1,0,0,1,1,0,0,1,1,0] [k3] n [(3,AV.own 100003 0),(9,.d (.list 2 v0)),(10,.d (.int .i64 v1)),(11,.d (.int .i64 v2)),(16,.d (.list 1 v3)),(17,.d (.int .i64 v4)),(18,.d (.int .i64 v5))] [(100003,Blk.arr 3 1 0 v6 (0,0,0))]
theorem F161.L3.succ (k:Nat) (call:zg) (n:Nat) (v0:Ovi.Rows) (v1 v2:Int) (v3:List (List D)):F161.L3 k call (n+1) v0 v1 v2 v3=ite' (decide (v2 < v1)) (ite' (inR v2 (List.length v0)) (zf (zm .i64 v0 v2.toNat 0) fun n8=>zc (zr 1 v0 v2.toNat 1) fun l9=>F161.L6 k call n k v0 v1 v2 l9 (((List.length l9):Int)) 0 v3) none) (za (call 215 [.var 0 0,.d (.int .i64 (↑3:Int)),.d (.list 1 v3)]) fun r8=>zc (resO 3 1 1 false 1 r8 0 0) fun l9=>za (call 216 [.var 0 0,.d (.int .i64 (↑3:Int)),.d (.list 1 l9)]) fun r10=>zc (resO 3 1 2 false 1 r10 0 0) fun l11=>some ([(false,[.row 3 1 l11])])):=by kernel_rfl
theorem F161.L6.succ (k:Nat) (call:zg) (k3 n:Nat) (v0:Ovi.Rows) (v1 v2:Int) (v3:Ovi.Rows) (v4 v5:Int) (v6:List (List D)):F161.L6 k call k3 (n+1) v0 v1 v2 v3 v4 v5 v6=ite' (decide (v5 < v4)) (ite' (inR v5 (List.length v3)) (zf (zm .i64 v3 v5.toNat 0) fun n12=>ite' (decide (n12 ≥ 0)) (ite' (fits (v6.length+[[D.int .i64 n12]].length)) (F161.L6 k call k3 n v0 v1 v2 v3 v4 (IntKind.i64.wrap (v5+1)) (v6++[[D.int .i64 n12]])) none) (F161.L6 k call k3 n v0 v1 v2 v3 v4 (IntKind.i64.wrap (v5+1)) v6)) none) (F161.L3 k call k3 v0 v1 (IntKind.i64.wrap (v2+1)) v6):=by kernel_rfl
theorem F161.run (k:Nat) (a0:Ovi.Rows):C (k+1) 161 [.d (.list 2 a0)]=F161.L3 k (C k) k a0 (((List.length a0):Int)) 0 []:=(crun k 161 (by kernel_rfl) Tryz.func161 rfl).trans (by kernel_rfl)
theorem F162.run (k:Nat) (a0 a1:Ovi.Rows) (a2:Int):C (k+1) 162 [.d (.list 3 a0),.d (.list 2 a1),.d (.int .i64 a2)]=za ((C k) 73 [.d (.int .i64 ((List.length a1):Int)),.d (.int .i64 1),.d (.int .i64 a2)]) fun r5=>zi (resB 1 false 1 r5 0 0) fun b6=>ite' b6 (za ((C k) 217 [.d (.list 2 a1),.d (.fn 218 [[D.list 3 a0]])]) fun r7=>zi (resB 1 false 1 r7 0 0) fun b8=>some ([(false,[.d (.bool !b8)])])) (some ([(false,[.d (.bool false)])])):=(crun k 162 (by kernel_rfl) Tryz.func162 rfl).trans (by kernel_rfl)
theorem F163.run (k:Nat) (a0:Ovi.Rows) (a1:FuncId) (a1c:Ovi.Rows):C (k+1) 163 [.d (.list 1 a0),.d (.fn a1 a1c)]=za ((C k) 220 [.d (.list 1 a0),.d (.fn a1 a1c)]) fun r5=>zf (resI .i64 1 false 1 r5 0 0) fun n6=>some ([(false,[.d (.bool (decide (n6 ≥ 0)))])]):=(crun k 163 (by kernel_rfl) Tryz.func163 rfl).trans (by kernel_rfl)
theorem F164.run (k:Nat) (a0:Int) (c0_0:Ovi.Rows):C (k+1) 164 [.d (.int .i64 a0),AV.cap [D.list 1 c0_0] 0]=za ((C k) 83 [.d (.list 1 c0_0),.d (.int .i64 a0)]) fun r4=>zi (resB 1 false 1 r4 0 0) fun b5=>some ([(false,[.d (.bool !b5)])]):=(crun k 164 (by kernel_rfl) Tryz.func164 rfl).trans (by kernel_rfl)
theorem F165.run (k:Nat) (a0:Int):C (k+1) 165 [.d (.int .i64 a0)]=za ((C k) 73 [.d (.int .i64 a0),.d (.int .i64 (-40)),.d (.int .i64 9)]) fun r3=>zi (resB 1 false 1 r3 0 0) fun b4=>some ([(false,[.d (.bool b4)])]):=(crun k 165 (by kernel_rfl) Tryz.func165 rfl).trans (by kernel_rfl)
noncomputable def F167.L3 (k:Nat) (call:zg) (n:Nat) (v0:Ovi.Rows) (v1 v2:Int) (v3:List (List D)):Option Res:=zp P hs call 167 k Tryz.f167 [1,1,0,1,0] [] n [(3,AV.own 100003 0),(7,.d (.list 2 v0)),(8,.d (.int .i64 v1)),(9,.d (.int .i64 v2))] [(100003,Blk.arr 118 2 0 v3 (1,0,0))]
theorem F167.L3.succ (k:Nat) (call:zg) (n:Nat) (v0:Ovi.Rows) (v1 v2:Int) (v3:List (List D)):F167.L3 k call (n+1) v0 v1 v2 v3=ite' (decide (v2 < v1)) (ite' (inR v2 (List.length v0)) (zf (zm .i64 v0 v2.toNat 0) fun n8=>zc (zr 1 v0 v2.toNat 1) fun l9=>za (call 221 [.agg [.d (.int .i64 n8),.d (.list 1 l9)]]) fun r10=>zf (resI .i64 1 true 2 r10 0 0) fun n11=>zc (resO 3 1 1 true 2 r10 0 1) fun l12=>ite' (fits (v3.length+[[D.int .i64 n11,D.list 1 l12]].length)) (F167.L3 k call n v0 v1 (IntKind.i64.wrap (v2+1)) (v3++[[D.int .i64 n11,D.list 1 l12]])) none) none) (some ([(false,[.frow 118 2 1 v3])])):=by kernel_rfl
theorem F167.run (k:Nat) (a0:Ovi.Rows):C (k+1) 167 [.d (.list 2 a0)]=F167.L3 k (C k) k a0 (((List.length a0):Int)) 0 []:=(crun k 167 (by kernel_rfl) Tryz.func167 rfl).trans (by kernel_rfl)
theorem F169.run (k:Nat) (a0_0:Int) (a0_1:Ovi.Rows) (a1_0:Int) (a1_1:Ovi.Rows):C (k+1) 169 [.agg [.d (.int .i64 a0_0),.d (.list 1 a0_1)],.agg [.d (.int .i64 a1_0),.d (.list 1 a1_1)]]=za ((C k) 225 [.d (.int .i64 a0_0),.d (.int .i64 a1_0)]) fun r6=>zf (resI .i64 1 false 1 r6 0 0) fun n7=>za ((C k) 226 [.d (.list 1 a0_1),.d (.list 1 a1_1)]) fun r8=>zf (resI .i64 1 false 1 r8 0 0) fun n9=>za ((C k) 224 [.d (.list 1 [[D.int .i64 n7],[D.int .i64 n9]])]) fun r10=>zf (resI .i64 1 false 1 r10 0 0) fun n11=>some ([(false,[.d (.int .i64 n11)])]):=(crun k 169 (by kernel_rfl) Tryz.func169 rfl).trans (by kernel_rfl)
theorem F171.run (k:Nat) (a0_0:Int) (a0_1:Ovi.Rows) (a1_0:Int) (a1_1:Ovi.Rows):C (k+1) 171 [.agg [.d (.int .i64 a0_0),.d (.list 1 a0_1)],.agg [.d (.int .i64 a1_0),.d (.list 1 a1_1)]]=za ((C k) 169 [.agg [.d (.int .i64 a0_0),.d (.list 1 a0_1)],.agg [.d (.int .i64 a1_0),.d (.list 1 a1_1)]]) fun r6=>zf (resI .i64 1 false 1 r6 0 0) fun n7=>some ([(false,[.d (.bool (n7==0))])]):=(crun k 171 (by kernel_rfl) Tryz.func171 rfl).trans (by kernel_rfl)
noncomputable def F172.L2 (k:Nat) (call:zg) (n:Nat) (v0 v1:Ovi.Rows) (v2 v3:Int):Option Res:=zp P hs call 172 k Tryz.f172 [1,0,1,0] [] n [(0,.d (.list 3 v0)),(5,.d (.list 3 v1)),(6,.d (.int .i64 v2)),(7,.d (.int .i64 v3))] []
theorem F172.L2.succ (k:Nat) (call:zg) (n:Nat) (v0 v1:Ovi.Rows) (v2 v3:Int):F172.L2 k call (n+1) v0 v1 v2 v3=ite' (decide (v3 < v2)) (ite' (inR v3 (List.length v1)) (zbg (zbh v1 v3.toNat 0) fun s8=>zf (zm .i64 v1 v3.toNat 1) fun n9=>zi (zam v1 v3.toNat 2) fun b10=>za (call 227 [.agg [.d (.str s8),.d (.int .i64 n9),.d (.bool b10)]]) fun r11=>zi (resB 1 false 1 r11 0 0) fun b12=>ite' (!b12) (some ([(false,[.d (.bool false)])])) (ite' (decide (v3 > 0)) (ite' (inR (IntKind.i64.wrap (v3 - 1)) (List.length v0)) (zbg (zbh v0 (IntKind.i64.wrap (v3 - 1)).toNat 0) fun s13=>ite' (zaR s8 s13||s8==s13) (some ([(false,[.d (.bool false)])])) (F172.L2 k call n v0 v1 v2 (IntKind.i64.wrap (v3+1)))) none) (F172.L2 k call n v0 v1 v2 (IntKind.i64.wrap (v3+1))))) none) (some ([(false,[.d (.bool (decide (((List.length v0):Int)≤6)))])])):=by kernel_rfl
theorem F172.run (k:Nat) (a0:Ovi.Rows):C (k+1) 172 [.d (.list 3 a0)]=F172.L2 k (C k) k a0 a0 (((List.length a0):Int)) 0:=(crun k 172 (by kernel_rfl) Tryz.func172 rfl).trans (by kernel_rfl)
theorem F173.run (k:Nat) (a0:Ovi.Rows) (a1_0:Int) (a1_1:Ovi.Rows):C (k+1) 173 [.d (.list 3 a0),.agg [.d (.int .i64 a1_0),.d (.list 1 a1_1)]]=za ((C k) 172 [.d (.list 3 a0)]) fun r5=>zi (resB 1 false 1 r5 0 0) fun b6=>ite' (!b6) (some ([(false,[.d (.bool false)])])) (za ((C k) 73 [.d (.int .i64 a1_0),.d (.int .i64 0),.d (.int .i64 (IntKind.i64.wrap (((List.length a0):Int) - 1)))]) fun r7=>zi (resB 1 false 1 r7 0 0) fun b8=>ite' (!b8) (some ([(false,[.d (.bool false)])])) (ite' (inR a1_0 (List.length a0)) (zf (zm .i64 a0 a1_0.toNat 1) fun n9=>ite' (((List.length a1_1):Int) != n9) (some ([(false,[.d (.bool false)])])) (za ((C k) 163 [.d (.list 1 a1_1),.d (.fn 228 [])]) fun r10=>zi (resB 1 false 1 r10 0 0) fun b11=>some ([(false,[.d (.bool !b11)])]))) none)):=(crun k 173 (by kernel_rfl) Tryz.func173 rfl).trans (by kernel_rfl)
theorem F174.run (k:Nat) (a0_0:Int) (a0_1:Ovi.Rows):C (k+1) 174 [.agg [.d (.int .i64 a0_0),.d (.list 1 a0_1)]]=za ((C k) 212 [.d (.list 1 a0_1)]) fun r4=>zc (resO 3 1 1 false 1 r4 0 0) fun l5=>some ([(false,[.row 3 1 l5])]):=(crun k 174 (by kernel_rfl) Tryz.func174 rfl).trans (by kernel_rfl)
theorem F175.run (k:Nat) (a0_0:Int) (a0_1:Ovi.Rows) (a1_0:Int) (a1_1:Ovi.Rows):C (k+1) 175 [.agg [.d (.int .i64 a0_0),.d (.list 1 a0_1)],.agg [.d (.int .i64 a1_0),.d (.list 1 a1_1)]]=ite' (a0_0 != a1_0) (some ([(false,[.d (.bool false)])])) (za ((C k) 60 [.d (.list 1 a0_1),.d (.list 1 a1_1)]) fun r6=>zi (resB 1 false 1 r6 0 0) fun b7=>ite' (!b7) (some ([(false,[.d (.bool false)])])) (some ([(false,[.d (.bool true)])]))):=(crun k 175 (by kernel_rfl) Tryz.func175 rfl).trans (by kernel_rfl)
noncomputable def F176.L2 (k:Nat) (call:zg) (n:Nat) (v0:Ovi.Rows) (v1:Int) (v2 v3:Ovi.Rows):Option Res:=zp P hs call 176 k Tryz.f176 [1,0,1,0] [] n [(1,.d (.list 2 v0)),(2,.var 128 0),(5,.d (.int .i64 v1))] [(128,Blk.var [.d (.list 3 v2),.d (.list 2 v3)])]
theorem F176.L2.succ (k:Nat) (call:zg) (n:Nat) (v0:Ovi.Rows) (v1:Int) (v2 v3:Ovi.Rows):F176.L2 k call (n+1) v0 v1 v2 v3=ite' (decide (v1 < ((List.length v0):Int))) (ite' (inR v1 (List.length v0)) (zf (zm .i64 v0 v1.toNat 0) fun n10=>zc (zr 1 v0 v1.toNat 1) fun l11=>za (call 156 [.d (.list 3 v2),.agg [.d (.int .i64 n10),.d (.list 1 l11)]]) fun r12=>zi (resB 1 false 1 r12 0 0) fun b13=>ite' (!b13) (some ([(false,[.d (.bool false)])])) (F176.L2 k call n v0 (IntKind.i64.wrap (v1+1)) v2 v3)) none) (za (call 67 [.agg [.d (.list 3 v2),.d (.list 2 v3)]]) fun r10=>zi (resB 1 false 1 r10 0 0) fun b11=>ite' b11 (some ([(false,[.d (.bool (decide (((List.length v0):Int)≤3)))])])) (some ([(false,[.d (.bool false)])]))):=by kernel_rfl
theorem F176.run (k:Nat) (a0_0 a0_1 a1:Ovi.Rows):C (k+1) 176 [.agg [.d (.list 3 a0_0),.d (.list 2 a0_1)],.d (.list 2 a1)]=F176.L2 k (C k) k a1 0 a0_0 a0_1:=(crun k 176 (by kernel_rfl) Tryz.func176 rfl).trans (by kernel_rfl)
noncomputable def F177.L5 (k:Nat) (call:zg) (n:Nat) (v0:Ovi.Rows) (v1:Int) (v2:Ovi.Rows) (v3:Int) (v4 v5:Ovi.Rows) (v6:List (List D)):Option Res:=zp P hs call 177 k Tryz.f177 [1,1,1,0,1,0] [] n [(1,.d (.list 2 v0)),(2,.d (.int .i64 v1)),(3,.d (.list 1 v2)),(4,.var 256 0),(9,AV.own 100009 0),(10,.d (.int .i64 v3))] [(256,Blk.var [.d (.list 3 v4),.d (.list 2 v5)]),(100009,Blk.arr 39 1 0 v6 (0,0,0))]
theorem F177.L5.succ (k:Nat) (call:zg) (n:Nat) (v0:Ovi.Rows) (v1:Int) (v2:Ovi.Rows) (v3:Int) (v4 v5:Ovi.Rows) (v6:List (List D)):F177.L5 k call (n+1) v0 v1 v2 v3 v4 v5 v6=ite' (decide (v3 < ((List.length v5):Int))) (ite' (inR v1 (List.length v0)) (zf (zm .i64 v0 v1.toNat 0) fun n15=>zc (zr 1 v0 v1.toNat 1) fun l16=>ite' (inR v3 (List.length v5)) (zf (zm .i64 v5 v3.toNat 0) fun n17=>zc (zr 1 v5 v3.toNat 1) fun l18=>za (call 229 [.agg [.d (.int .i64 n15),.d (.list 1 l16)],.agg [.d (.int .i64 n17),.d (.list 1 l18)],.d (.list 1 v2)]) fun r19=>zc (resO 3 1 2 false 1 r19 0 0) fun l20=>zi (resB 2 false 1 r19 1 0) fun b21=>ite' b21 (za (call 177 [.agg [.d (.list 3 v4),.d (.list 2 v5)],.d (.list 2 v0),.d (.int .i64 (IntKind.i64.wrap (v1+1))),.d (.list 1 l20)]) fun r22=>zc (resO 39 1 1 false 1 r22 0 0) fun l23=>ite' (fits (v6.length+List.length l23)) (F177.L5 k call n v0 v1 v2 (IntKind.i64.wrap (v3+1)) v4 v5 (v6++l23)) none) (F177.L5 k call n v0 v1 v2 (IntKind.i64.wrap (v3+1)) v4 v5 v6)) none) none) (some ([(false,[.row 39 1 v6])])):=by kernel_rfl
theorem F177.run (k:Nat) (a0_0 a0_1 a1:Ovi.Rows) (a2:Int) (a3:Ovi.Rows):C (k+1) 177 [.agg [.d (.list 3 a0_0),.d (.list 2 a0_1)],.d (.list 2 a1),.d (.int .i64 a2),.d (.list 1 a3)]=ite' (a2==((List.length a1):Int)) (ite' (fits (List.length a3)) (some ([(false,[.row 39 1 [[D.list 1 a3]]])])) none) (F177.L5 k (C k) k a1 a2 a3 0 a0_0 a0_1 []):=(crun k 177 (by kernel_rfl) Tryz.func177 rfl).trans (by kernel_rfl)
noncomputable def F178.L2 (k:Nat) (call:zg) (n:Nat) (v0:List (List D)):Option Res:=zp P hs call 178 k Tryz.f178 [1,1,0,0] [] n [(1,AV.own 100001 0)] [(100001,Blk.arr 3 1 0 v0 (0,0,0))]
theorem F178.L2.succ (k:Nat) (call:zg) (n:Nat) (v0:List (List D)):F178.L2 k call (n+1) v0=ite' (decide ((↑v0.length:Int) < 5)) (za (call 196 []) fun r4=>zf (resI .i64 1 false 1 r4 0 0) fun n5=>ite' (fits (v0.length+[[D.int .i64 n5]].length)) (F178.L2 k call n (v0++[[D.int .i64 n5]])) none) (some ([(false,[.row 3 1 v0])])):=by kernel_rfl
theorem F178.run (k:Nat):C (k+1) 178 []=F178.L2 k (C k) k []:=(crun k 178 (by kernel_rfl) Tryz.func178 rfl).trans (by kernel_rfl)
noncomputable def F179.L2 (k:Nat) (call:zg) (n:Nat) (v0 v1:Ovi.Rows) (v2:Int):Option Res:=zp P hs call 179 k Tryz.f179 [1,0,1,0] [] n [(0,.d (.list 1 v0)),(1,.d (.list 1 v1)),(5,.d (.int .i64 v2))] []
theorem F179.L2.succ (k:Nat) (call:zg) (n:Nat) (v0 v1:Ovi.Rows) (v2:Int):F179.L2 k call (n+1) v0 v1 v2=ite' (decide (v2 < ((List.length v0):Int))) (ite' (decide (v2 < ((List.length v1):Int))) (ite' (inR v2 (List.length v0)) (zf (zm .i64 v0 v2.toNat 0) fun n8=>ite' (inR v2 (List.length v1)) (zf (zm .i64 v1 v2.toNat 0) fun n9=>ite' (decide (n8 < n9)) (some ([(false,[.d (.int .i64 (-1))])])) (ite' (inR v2 (List.length v0)) (zf (zm .i64 v0 v2.toNat 0) fun n10=>ite' (inR v2 (List.length v1)) (zf (zm .i64 v1 v2.toNat 0) fun n11=>ite' (decide (n10 > n11)) (some ([(false,[.d (.int .i64 1)])])) (F179.L2 k call n v0 v1 (IntKind.i64.wrap (v2+1)))) none) none)) none) none) (ite' (decide (((List.length v0):Int) < ((List.length v1):Int))) (some ([(false,[.d (.int .i64 (-1))])])) (ite' (decide (((List.length v0):Int) > ((List.length v1):Int))) (some ([(false,[.d (.int .i64 1)])])) (some ([(false,[.d (.int .i64 0)])]))))) (ite' (decide (((List.length v0):Int) < ((List.length v1):Int))) (some ([(false,[.d (.int .i64 (-1))])])) (ite' (decide (((List.length v0):Int) > ((List.length v1):Int))) (some ([(false,[.d (.int .i64 1)])])) (some ([(false,[.d (.int .i64 0)])])))):=by kernel_rfl
theorem F179.run (k:Nat) (a0 a1:Ovi.Rows):C (k+1) 179 [.d (.list 1 a0),.d (.list 1 a1)]=F179.L2 k (C k) k a0 a1 0:=(crun k 179 (by kernel_rfl) Tryz.func179 rfl).trans (by kernel_rfl)
noncomputable def F180.L5 (k:Nat) (call:zg) (n:Nat) (v0 v1:Int) (v2:List (List D)) (v3:Ovi.Rows):Option Res:=zp P hs call 180 k Tryz.f180 [1,1,1,0,1,0] [] n [(5,AV.own 100005 0),(18,AV.own 100018 0),(19,.d (.int .i64 v0)),(20,.d (.int .i64 v1))] [(100005,Blk.arr 39 1 0 v2 (0,0,0)),(100018,Blk.arr 39 1 0 v3 (0,0,0))]
theorem F180.L5.succ (k:Nat) (call:zg) (n:Nat) (v0 v1:Int) (v2:List (List D)) (v3:Ovi.Rows):F180.L5 k call (n+1) v0 v1 v2 v3=ite' (decide (v1 < v0)) (ite' (inR v1 (List.length v3)) (zc (zr 1 v3 v1.toNat 0) fun l10=>za (call 233 [.d (.list 1 v2),.d (.list 1 l10)]) fun r11=>zi (resB 1 false 1 r11 0 0) fun b12=>ite' (!b12) (ite' (fits (v2.length+[[D.list 1 l10]].length)) (F180.L5 k call n v0 (IntKind.i64.wrap (v1+1)) (v2++[[D.list 1 l10]]) v3) none) (F180.L5 k call n v0 (IntKind.i64.wrap (v1+1)) v2 v3)) none) (some ([(false,[.row 39 1 v2])])):=by kernel_rfl
theorem F180.run (k:Nat) (a0_0 a0_1 a1:Ovi.Rows):C (k+1) 180 [.agg [.d (.list 3 a0_0),.d (.list 2 a0_1)],.d (.list 2 a1)]=za ((C k) 230 [.agg [.d (.list 3 a0_0),.d (.list 2 a0_1)],.d (.list 2 a1)]) fun r5=>zi (resB 1 false 1 r5 0 0) fun b6=>ite' (!b6) (some ([(false,[.nil])])) (za ((C k) 232 []) fun r7=>zc (resO 3 1 1 false 1 r7 0 0) fun l8=>za ((C k) 231 [.d (.list 2 a0_1),.d (.list 2 a1),.d (.list 1 l8)]) fun r9=>zc (resO 39 1 1 false 1 r9 0 0) fun l10=>F180.L5 k (C k) k (((List.length l10):Int)) 0 [] l10):=(crun k 180 (by kernel_rfl) Tryz.func180 rfl).trans (by kernel_rfl)
theorem F182.run (k:Nat) (a0:Int):C (k+1) 182 [.d (.int .i64 a0)]=some ([(false,[.d (.bool (decide (a0 < 0)))])]):=(crun k 182 (by kernel_rfl) Tryz.func182 rfl).trans (by kernel_rfl)
noncomputable def F183.L4 (k:Nat) (call:zg) (n:Nat) (v0:Ovi.Rows) (v1:Int) (v2 v3:Ovi.Rows) (v4:Bool) (v5 v6:Int):Option Res:=zp P hs call 183 k Tryz.f183 [1,1,0,1,0] [] n [(0,.d (.list 3 v0)),(3,.var 192 0),(5,.d (.int .i64 v1))] [(192,Blk.var [.d (.list 2 v2),.d (.list 2 v3),.d (.bool v4),.d (.int .i64 v5),.d (.int .i64 v6)])]
noncomputable def F183.L12 (k:Nat) (call:zg) (n:Nat) (v0:Ovi.Rows) (v1:Int) (v2 v3:Ovi.Rows) (v4:Bool) (v5 v6:Int):Option Res:=zp P hs call 183 k Tryz.f183 [1,1,1,1,0,1,0] [] n [(0,.d (.list 3 v0)),(3,.var 192 0),(7,.d (.int .i64 v1))] [(192,Blk.var [.d (.list 2 v2),.d (.list 2 v3),.d (.bool v4),.d (.int .i64 v5),.d (.int .i64 v6)])]
theorem F183.L4.succ (k:Nat) (call:zg) (n:Nat) (v0:Ovi.Rows) (v1:Int) (v2 v3:Ovi.Rows) (v4:Bool) (v5 v6:Int):F183.L4 k call (n+1) v0 v1 v2 v3 v4 v5 v6=ite' (decide (v1 < ((List.length v2):Int))) (ite' (inR v1 (List.length v2)) (zf (zm .i64 v2 v1.toNat 0) fun n16=>zc (zr 1 v2 v1.toNat 1) fun l17=>za (call 156 [.d (.list 3 v0),.agg [.d (.int .i64 n16),.d (.list 1 l17)]]) fun r18=>zi (resB 1 false 1 r18 0 0) fun b19=>ite' (!b19) (some ([(false,[.d (.bool false)])])) (F183.L4 k call n v0 (IntKind.i64.wrap (v1+1)) v2 v3 v4 v5 v6)) none) (ite' v4 (za (call 155 [.d (.list 2 v2)]) fun r16=>zc (resL 1 1 false 1 r16 0 0) fun l17=>ite' (((List.length v3):Int)==0) (za (call 81 [.d (.list 1 l17),.d (.int .i64 v5)]) fun r18=>zi (resB 1 false 1 r18 0 0) fun b19=>ite' b19 (za (call 81 [.d (.list 1 l17),.d (.int .i64 v6)]) fun r20=>zi (resB 1 false 1 r20 0 0) fun b21=>ite' b21 (some ([(false,[.d (.bool (decide (v5 < v6)))])])) (some ([(false,[.d (.bool false)])]))) (some ([(false,[.d (.bool false)])]))) (some ([(false,[.d (.bool false)])]))) (F183.L12 k call k v0 0 v2 v3 v4 v5 v6)):=by kernel_rfl
theorem F183.L12.succ (k:Nat) (call:zg) (n:Nat) (v0:Ovi.Rows) (v1:Int) (v2 v3:Ovi.Rows) (v4:Bool) (v5 v6:Int):F183.L12 k call (n+1) v0 v1 v2 v3 v4 v5 v6=ite' (decide (v1 < ((List.length v3):Int))) (ite' (inR v1 (List.length v3)) (zf (zm .i64 v3 v1.toNat 0) fun n16=>zc (zr 1 v3 v1.toNat 1) fun l17=>za (call 156 [.d (.list 3 v0),.agg [.d (.int .i64 n16),.d (.list 1 l17)]]) fun r18=>zi (resB 1 false 1 r18 0 0) fun b19=>ite' (!b19) (some ([(false,[.d (.bool false)])])) (ite' (inR v1 (List.length v3)) (zf (zm .i64 v3 v1.toNat 0) fun n20=>ite' (inR n20 (List.length v0)) (zi (zam v0 n20.toNat 2) fun b21=>ite' b21 (some ([(false,[.d (.bool false)])])) (F183.L12 k call n v0 (IntKind.i64.wrap (v1+1)) v2 v3 v4 v5 v6)) none) none)) none) (za (call 68 [.d (.int .i64 ((List.length v3):Int)),.d (.int .i64 1),.d (.int .i64 2)]) fun r16=>zi (resB 1 false 1 r16 0 0) fun b17=>ite' b17 (ite' (v5==0) (some ([(false,[.d (.bool (v6==0))])])) (some ([(false,[.d (.bool false)])]))) (some ([(false,[.d (.bool false)])]))):=by kernel_rfl
theorem F183.run (k:Nat) (a0 a1_0 a1_1:Ovi.Rows) (a1_2:Bool) (a1_3 a1_4:Int):C (k+1) 183 [.d (.list 3 a0),.agg [.d (.list 2 a1_0),.d (.list 2 a1_1),.d (.bool a1_2),.d (.int .i64 a1_3),.d (.int .i64 a1_4)]]=za ((C k) 68 [.d (.int .i64 ((List.length a1_0):Int)),.d (.int .i64 1),.d (.int .i64 2)]) fun r8=>zi (resB 1 false 1 r8 0 0) fun b9=>ite' (!b9) (some ([(false,[.d (.bool false)])])) (F183.L4 k (C k) k a0 0 a1_0 a1_1 a1_2 a1_3 a1_4):=(crun k 183 (by kernel_rfl) Tryz.func183 rfl).trans (by kernel_rfl)
theorem F184.run (k:Nat) (a0_0 a0_1 a1 a2:Ovi.Rows):C (k+1) 184 [.agg [.d (.list 3 a0_0),.d (.list 2 a0_1)],.d (.list 2 a1),.d (.list 1 a2)]=za ((C k) 176 [.agg [.d (.list 3 a0_0),.d (.list 2 a0_1)],.d (.list 2 a1)]) fun r6=>zi (resB 1 false 1 r6 0 0) fun b7=>ite' b7 (ite' (((List.length a2):Int)==5) (za ((C k) 177 [.agg [.d (.list 3 a0_0),.d (.list 2 a0_1)],.d (.list 2 a1),.d (.int .i64 0),.d (.list 1 a2)]) fun r8=>zc (resO 39 1 1 false 1 r8 0 0) fun l9=>some ([(false,[.d (.bool (decide (((List.length l9):Int) > 0)))])])) (some ([(false,[.d (.bool false)])]))) (some ([(false,[.d (.bool false)])])):=(crun k 184 (by kernel_rfl) Tryz.func184 rfl).trans (by kernel_rfl)
noncomputable def F185.L5 (k:Nat) (call:zg) (n:Nat) (v0 v1:Ovi.Rows) (v2:Int) (v3:List (List D)):Option Res:=zp P hs call 185 k Tryz.f185 [1,1,1,1,0,1,0] [] n [(3,AV.own 100003 0),(4,.d (.list 1 v0)),(5,.d (.list 1 v1)),(6,.d (.int .i64 v2))] [(100003,Blk.arr 3 1 0 v3 (0,0,0))]
theorem F185.L5.succ (k:Nat) (call:zg) (n:Nat) (v0 v1:Ovi.Rows) (v2:Int) (v3:List (List D)):F185.L5 k call (n+1) v0 v1 v2 v3=ite' (decide (v2 < ((List.length v1):Int))) (ite' (inR v2 (List.length v1)) (zf (zm .i64 v1 v2.toNat 0) fun n12=>za (call 81 [.d (.list 1 v0),.d (.int .i64 n12)]) fun r13=>zi (resB 1 false 1 r13 0 0) fun b14=>ite' (!b14) (ite' (inR v2 (List.length v1)) (zf (zm .i64 v1 v2.toNat 0) fun n15=>ite' (fits (v3.length+[[D.int .i64 n15]].length)) (F185.L5 k call n v0 v1 (IntKind.i64.wrap (v2+1)) (v3++[[D.int .i64 n15]])) none) none) (F185.L5 k call n v0 v1 (IntKind.i64.wrap (v2+1)) v3)) none) (some ([(false,[.row 3 1 v3])])):=by kernel_rfl
theorem F185.run (k:Nat) (a0_0 a0_1:Ovi.Rows) (a0_2:Bool) (a0_3 a0_4:Int):C (k+1) 185 [.agg [.d (.list 2 a0_0),.d (.list 2 a0_1),.d (.bool a0_2),.d (.int .i64 a0_3),.d (.int .i64 a0_4)]]=za ((C k) 155 [.d (.list 2 a0_0)]) fun r7=>zc (resL 1 1 false 1 r7 0 0) fun l8=>za ((C k) 155 [.d (.list 2 a0_1)]) fun r9=>zc (resL 1 1 false 1 r9 0 0) fun l10=>F185.L5 k (C k) k l8 l10 0 []:=(crun k 185 (by kernel_rfl) Tryz.func185 rfl).trans (by kernel_rfl)
theorem F186.run (k:Nat) (a0_0 a0_1:Ovi.Rows):C (k+1) 186 [.agg [.d (.list 3 a0_0),.d (.list 2 a0_1)]]=za ((C k) 69 [.agg [.d (.list 3 a0_0),.d (.list 2 a0_1)]]) fun r4=>zc (resL 1 1 false 1 r4 0 0) fun l5=>ite' (((List.length l5):Int)==0) (some ([(false,[.d (.int .i64 0)])])) (ite' (inR (IntKind.i64.wrap (((List.length l5):Int) - 1)) (List.length l5)) (zf (zm .i64 l5 (IntKind.i64.wrap (((List.length l5):Int) - 1)).toNat 0) fun n6=>some ([(false,[.d (.int .i64 (IntKind.i64.wrap (n6+1)))])])) none):=(crun k 186 (by kernel_rfl) Tryz.func186 rfl).trans (by kernel_rfl)
theorem F187.run (k:Nat) (a0:Ovi.Rows) (a1:FuncId) (a1c:Ovi.Rows):C (k+1) 187 [.d (.list 5 a0),.d (.fn a1 a1c)]=za ((C k) 237 [.d (.list 5 a0),.d (.fn a1 a1c)]) fun r5=>zf (resI .i64 1 false 1 r5 0 0) fun n6=>some ([(false,[.d (.bool (decide (n6 ≥ 0)))])]):=(crun k 187 (by kernel_rfl) Tryz.func187 rfl).trans (by kernel_rfl)
theorem F188.run (k:Nat) (a0_0 a0_1:Ovi.Rows) (a0_2:Bool) (a0_3 a0_4:Int) (c0_0:Ovi.Rows):C (k+1) 188 [.agg [.d (.list 2 a0_0),.d (.list 2 a0_1),.d (.bool a0_2),.d (.int .i64 a0_3),.d (.int .i64 a0_4)],AV.cap [D.list 3 c0_0] 0]=za ((C k) 189 [.d (.list 3 c0_0),.agg [.d (.list 2 a0_0),.d (.list 2 a0_1),.d (.bool a0_2),.d (.int .i64 a0_3),.d (.int .i64 a0_4)]]) fun r8=>zi (resB 1 false 1 r8 0 0) fun b9=>some ([(false,[.d (.bool !b9)])]):=(crun k 188 (by kernel_rfl) Tryz.func188 rfl).trans (by kernel_rfl)
theorem F189.run (k:Nat) (a0 a1_0 a1_1:Ovi.Rows) (a1_2:Bool) (a1_3 a1_4:Int):C (k+1) 189 [.d (.list 3 a0),.agg [.d (.list 2 a1_0),.d (.list 2 a1_1),.d (.bool a1_2),.d (.int .i64 a1_3),.d (.int .i64 a1_4)]]=za ((C k) 162 [.d (.list 3 a0),.d (.list 2 a1_0),.d (.int .i64 2)]) fun r8=>zi (resB 1 false 1 r8 0 0) fun b9=>ite' (!b9) (some ([(false,[.d (.bool false)])])) (ite' a1_2 (za ((C k) 161 [.d (.list 2 a1_0)]) fun r10=>zc (resO 3 1 1 false 1 r10 0 0) fun l11=>ite' (((List.length a1_1):Int)==0) (ite' (decide (a1_3 < a1_4)) (za ((C k) 83 [.d (.list 1 l11),.d (.int .i64 a1_3)]) fun r12=>zi (resB 1 false 1 r12 0 0) fun b13=>ite' b13 (za ((C k) 83 [.d (.list 1 l11),.d (.int .i64 a1_4)]) fun r14=>zi (resB 1 false 1 r14 0 0) fun b15=>some ([(false,[.d (.bool b15)])])) (some ([(false,[.d (.bool false)])]))) (some ([(false,[.d (.bool false)])]))) (some ([(false,[.d (.bool false)])]))) (za ((C k) 162 [.d (.list 3 a0),.d (.list 2 a1_1),.d (.int .i64 2)]) fun r10=>zi (resB 1 false 1 r10 0 0) fun b11=>ite' b11 (ite' (a1_3==0) (ite' (a1_4==0) (za ((C k) 217 [.d (.list 2 a1_1),.d (.fn 238 [[D.list 3 a0]])]) fun r12=>zi (resB 1 false 1 r12 0 0) fun b13=>some ([(false,[.d (.bool !b13)])])) (some ([(false,[.d (.bool false)])]))) (some ([(false,[.d (.bool false)])]))) (some ([(false,[.d (.bool false)])])))):=(crun k 189 (by kernel_rfl) Tryz.func189 rfl).trans (by kernel_rfl)
theorem F190.run (k:Nat) (a0_0 a0_1 a1_0 a1_1:Ovi.Rows) (a1_2:Bool) (a1_3 a1_4:Int) (a2:Ovi.Rows):C (k+1) 190 [.agg [.d (.list 3 a0_0),.d (.list 2 a0_1)],.agg [.d (.list 2 a1_0),.d (.list 2 a1_1),.d (.bool a1_2),.d (.int .i64 a1_3),.d (.int .i64 a1_4)],.d (.list 1 a2)]=za ((C k) 134 [.agg [.d (.list 3 a0_0),.d (.list 2 a0_1)],.agg [.d (.list 2 a1_0),.d (.list 2 a1_1),.d (.bool a1_2),.d (.int .i64 a1_3),.d (.int .i64 a1_4)],.d (.list 1 a2)]) fun r10=>zi (resB 1 false 1 r10 0 0) fun b11=>ite' (!b11) (some ([(false,[.d (.bool false)])])) (ite' a1_2 (ite' (inR a1_3 (List.length a2)) (zf (zm .i64 a2 a1_3.toNat 0) fun n12=>ite' (inR a1_4 (List.length a2)) (zf (zm .i64 a2 a1_4.toNat 0) fun n13=>some ([(false,[.d (.bool (n12 != n13))])])) none) none) (za ((C k) 239 [.agg [.d (.list 3 a0_0),.d (.list 2 a0_1)],.d (.list 2 a1_1),.d (.list 1 a2)]) fun r12=>zi (resB 1 false 1 r12 0 0) fun b13=>some ([(false,[.d (.bool !b13)])]))):=(crun k 190 (by kernel_rfl) Tryz.func190 rfl).trans (by kernel_rfl)
theorem F191.run (k:Nat) (a0_0 a0_1:Ovi.Rows) (a1 a2:Int):C (k+1) 191 [.agg [.d (.list 3 a0_0),.d (.list 2 a0_1)],.d (.int .i64 a1),.d (.int .i64 a2)]=za ((C k) 182 [.d (.int .i64 a1)]) fun r6=>zi (resB 1 false 1 r6 0 0) fun b7=>ite' (!b7) (za ((C k) 182 [.d (.int .i64 a2)]) fun r8=>zi (resB 1 false 1 r8 0 0) fun b9=>ite' (!b9) (za ((C k) 98 [.agg [.d (.list 3 a0_0),.d (.list 2 a0_1)]]) fun r10=>zc (resO 133 3 1 true 2 r10 0 0) fun l11=>zc (resF 118 2 1 1 true 2 r10 0 1) fun l12=>some ([(true,[.row 133 3 l11,.frow 118 2 1 l12]),(false,[.d (.int .i64 2)])])) (za ((C k) 82 [.d (.int .i64 (minI a1 a2))]) fun r10=>zf (resI .i64 2 false 1 r10 0 0) fun n11=>zi (resB 2 false 1 r10 1 0) fun b12=>za ((C k) 152 [.agg [.d (.list 1 [[D.int .i64 n11]]),.d (.list 1 [[D.int .i64 (maxI a1 a2)]])],.agg [.d (.list 3 a0_0),.d (.list 2 a0_1)]]) fun r13=>zc (resO 133 3 2 true 2 r13 0 0) fun l14=>zc (resF 118 2 1 2 true 2 r13 0 1) fun l15=>zi (resB 2 false 1 r13 1 0) fun b16=>some ([(true,[.row 133 3 l14,.frow 118 2 1 l15]),(false,[.d (.int .i64 1)])]))) (za ((C k) 82 [.d (.int .i64 (minI a1 a2))]) fun r8=>zf (resI .i64 2 false 1 r8 0 0) fun n9=>zi (resB 2 false 1 r8 1 0) fun b10=>za ((C k) 152 [.agg [.d (.list 1 [[D.int .i64 n9]]),.d (.list 1 [[D.int .i64 (maxI a1 a2)]])],.agg [.d (.list 3 a0_0),.d (.list 2 a0_1)]]) fun r11=>zc (resO 133 3 2 true 2 r11 0 0) fun l12=>zc (resF 118 2 1 2 true 2 r11 0 1) fun l13=>zi (resB 2 false 1 r11 1 0) fun b14=>some ([(true,[.row 133 3 l12,.frow 118 2 1 l13]),(false,[.d (.int .i64 1)])])):=(crun k 191 (by kernel_rfl) Tryz.func191 rfl).trans (by kernel_rfl)
theorem F193.run (k:Nat) (a0_0 a0_1:Ovi.Rows):C (k+1) 193 [.agg [.d (.list 3 a0_0),.d (.list 2 a0_1)]]=za ((C k) 151 [.agg [.d (.list 3 a0_0),.d (.list 2 a0_1)]]) fun r4=>zc (resO 3 1 1 false 1 r4 0 0) fun l5=>ite' (((List.length l5):Int)==0) (some ([(false,[.d (.int .i64 0)])])) (ite' (inR (IntKind.i64.wrap (((List.length l5):Int) - 1)) (List.length l5)) (zf (zm .i64 l5 (IntKind.i64.wrap (((List.length l5):Int) - 1)).toNat 0) fun n6=>some ([(false,[.d (.int .i64 (IntKind.i64.wrap (n6+1)))])])) none):=(crun k 193 (by kernel_rfl) Tryz.func193 rfl).trans (by kernel_rfl)
theorem F194.run (k:Nat) (a0_0 a0_1:Ovi.Rows) (a0_2:Bool) (a0_3 a0_4:Int):C (k+1) 194 [.agg [.d (.list 2 a0_0),.d (.list 2 a0_1),.d (.bool a0_2),.d (.int .i64 a0_3),.d (.int .i64 a0_4)]]=za ((C k) 240 [.agg [.d (.list 2 a0_0),.d (.list 2 a0_1),.d (.bool a0_2),.d (.int .i64 a0_3),.d (.int .i64 a0_4)],.d (.bool false)]) fun r7=>zc (resO 3 1 1 false 1 r7 0 0) fun l8=>some ([(false,[.row 3 1 l8])]):=(crun k 194 (by kernel_rfl) Tryz.func194 rfl).trans (by kernel_rfl)
theorem F196.run (k:Nat):C (k+1) 196 []=some ([(false,[.d (.int .i64 10)])]):=(crun k 196 (by kernel_rfl) Tryz.func196 rfl).trans (by kernel_rfl)
theorem F202.run (k:Nat) (a0:Ovi.Rows) (a1_0:Int) (a1_1:Ovi.Rows):C (k+1) 202 [.d (.list 2 a0),.agg [.d (.int .i64 a1_0),.d (.list 1 a1_1)]]=za ((C k) 245 [.d (.list 2 a0),.d (.fn 246 [[D.int .i64 a1_0,D.list 1 a1_1]])]) fun r5=>zi (resB 1 false 1 r5 0 0) fun b6=>some ([(false,[.d (.bool b6)])]):=(crun k 202 (by kernel_rfl) Tryz.func202 rfl).trans (by kernel_rfl)
theorem F210.run (k:Nat) (a0_0:List UInt8) (a0_1:Int) (a0_2:Bool):C (k+1) 210 [.agg [.d (.str a0_0),.d (.int .i64 a0_1),.d (.bool a0_2)]]=ite' ((↑a0_0.length:Int)==1) (ite' (inR 0 a0_0.length) (ite' (decide (za7 a0_0 0 ≥ 97)) (ite' (inR 0 a0_0.length) (ite' (decide (za7 a0_0 0≤122)) (za ((C k) 68 [.d (.int .i64 a0_1),.d (.int .i64 1),.d (.int .i64 3)]) fun r5=>zi (resB 1 false 1 r5 0 0) fun b6=>some ([(false,[.d (.bool b6)])])) (some ([(false,[.d (.bool false)])]))) none) (some ([(false,[.d (.bool false)])]))) none) (some ([(false,[.d (.bool false)])])):=(crun k 210 (by kernel_rfl) Tryz.func210 rfl).trans (by kernel_rfl)
noncomputable def F211.L2 (k:Nat) (call:zg) (n:Nat) (v0 v1:Int) (v2 v3:Ovi.Rows):Option Res:=zp P hs call 211 k Tryz.f211 [1,0,1,0] [] n [(1,.d (.int .i64 v0)),(2,.var 128 0),(5,.d (.int .i64 v1))] [(128,Blk.var [.d (.list 1 v2),.d (.list 1 v3)])]
theorem F211.L2.succ (k:Nat) (call:zg) (n:Nat) (v0 v1:Int) (v2 v3:Ovi.Rows):F211.L2 k call (n+1) v0 v1 v2 v3=ite' (decide (v1 < ((List.length v2):Int))) (za (call 148 [.agg [.d (.list 1 v2),.d (.list 1 v3)]]) fun r10=>zi (resB 1 false 1 r10 0 0) fun b11=>ite' b11 (ite' (inR v1 (List.length v2)) (zf (zm .i64 v2 v1.toNat 0) fun n12=>za (call 70 [.d (.int .i64 n12)]) fun r13=>zf (resI .i64 1 false 1 r13 0 0) fun n14=>ite' (n14==v0) (ite' (inR v1 (List.length v3)) (zf (zm .i64 v3 v1.toNat 0) fun n15=>some ([(false,[.d (.int .i64 n15)])])) none) (F211.L2 k call n v0 (IntKind.i64.wrap (v1+1)) v2 v3)) none) (some ([(false,[.d (.int .i64 v0)])]))) (some ([(false,[.d (.int .i64 v0)])])):=by kernel_rfl
theorem F211.run (k:Nat) (a0_0 a0_1:Ovi.Rows) (a1:Int):C (k+1) 211 [.agg [.d (.list 1 a0_0),.d (.list 1 a0_1)],.d (.int .i64 a1)]=F211.L2 k (C k) k a1 0 a0_0 a0_1:=(crun k 211 (by kernel_rfl) Tryz.func211 rfl).trans (by kernel_rfl)
noncomputable def F212.L3 (k:Nat) (call:zg) (n:Nat) (v0:Ovi.Rows) (v1 v2:Int) (v3:List (List D)):Option Res:=zp P hs call 212 k Tryz.f212 [1,1,0,1,0] [] n [(3,AV.own 100003 0),(9,.d (.list 1 v0)),(10,.d (.int .i64 v1)),(11,.d (.int .i64 v2))] [(100003,Blk.arr 3 1 0 v3 (0,0,0))]
theorem F212.L3.succ (k:Nat) (call:zg) (n:Nat) (v0:Ovi.Rows) (v1 v2:Int) (v3:List (List D)):F212.L3 k call (n+1) v0 v1 v2 v3=ite' (decide (v2 < v1)) (ite' (inR v2 (List.length v0)) (zf (zm .i64 v0 v2.toNat 0) fun n8=>za (call 82 [.d (.int .i64 n8)]) fun r9=>zf (resI .i64 2 false 1 r9 0 0) fun n10=>zi (resB 2 false 1 r9 1 0) fun b11=>ite' b11 (ite' (fits (v3.length+[[D.int .i64 n10]].length)) (F212.L3 k call n v0 v1 (IntKind.i64.wrap (v2+1)) (v3++[[D.int .i64 n10]])) none) (F212.L3 k call n v0 v1 (IntKind.i64.wrap (v2+1)) v3)) none) (za (call 215 [.var 0 0,.d (.int .i64 (↑3:Int)),.d (.list 1 v3)]) fun r8=>zc (resO 3 1 1 false 1 r8 0 0) fun l9=>za (call 216 [.var 0 0,.d (.int .i64 (↑3:Int)),.d (.list 1 l9)]) fun r10=>zc (resO 3 1 2 false 1 r10 0 0) fun l11=>some ([(false,[.row 3 1 l11])])):=by kernel_rfl
theorem F212.run (k:Nat) (a0:Ovi.Rows):C (k+1) 212 [.d (.list 1 a0)]=F212.L3 k (C k) k a0 (((List.length a0):Int)) 0 []:=(crun k 212 (by kernel_rfl) Tryz.func212 rfl).trans (by kernel_rfl)
noncomputable def F213.L4 (k:Nat) (call:zg) (n:Nat) (v0:Ovi.Rows) (v1 v2:Int) (v3 v4:Ovi.Rows):Option Res:=zp P hs call 213 k Tryz.f213 [1,1,0,1,0] [] n [(1,.var 64 0),(13,.d (.list 1 v0)),(14,.d (.int .i64 v1)),(15,.d (.int .i64 v2))] [(64,Blk.var [.d (.list 1 v3),.d (.list 1 v4)])]
theorem F213.L4.succ (k:Nat) (call:zg) (n:Nat) (v0:Ovi.Rows) (v1 v2:Int) (v3 v4:Ovi.Rows):F213.L4 k call (n+1) v0 v1 v2 v3 v4=ite' (decide (v2 < v1)) (ite' (inR v2 (List.length v0)) (zf (zm .i64 v0 v2.toNat 0) fun n10=>za (call 73 [.d (.int .i64 n10),.d (.int .i64 0),.d (.int .i64 39)]) fun r11=>zi (resB 1 false 1 r11 0 0) fun b12=>ite' (!b12) (some ([(false,[.d (.bool false)])])) (ite' (decide (v2 > 0)) (ite' (inR (IntKind.i64.wrap (v2 - 1)) (List.length v3)) (zf (zm .i64 v3 (IntKind.i64.wrap (v2 - 1)).toNat 0) fun n13=>ite' (decide (n10≤n13)) (some ([(false,[.d (.bool false)])])) (ite' (inR v2 (List.length v4)) (zf (zm .i64 v4 v2.toNat 0) fun n14=>za (call 165 [.d (.int .i64 n14)]) fun r15=>zi (resB 1 false 1 r15 0 0) fun b16=>ite' (!b16) (some ([(false,[.d (.bool false)])])) (F213.L4 k call n v0 v1 (IntKind.i64.wrap (v2+1)) v3 v4)) none)) none) (ite' (inR v2 (List.length v4)) (zf (zm .i64 v4 v2.toNat 0) fun n13=>za (call 165 [.d (.int .i64 n13)]) fun r14=>zi (resB 1 false 1 r14 0 0) fun b15=>ite' (!b15) (some ([(false,[.d (.bool false)])])) (F213.L4 k call n v0 v1 (IntKind.i64.wrap (v2+1)) v3 v4)) none))) none) (some ([(false,[.d (.bool true)])])):=by kernel_rfl
theorem F213.run (k:Nat) (a0_0 a0_1:Ovi.Rows):C (k+1) 213 [.agg [.d (.list 1 a0_0),.d (.list 1 a0_1)]]=ite' (((List.length a0_0):Int) != ((List.length a0_1):Int)) (some ([(false,[.d (.bool false)])])) (F213.L4 k (C k) k a0_0 (((List.length a0_0):Int)) 0 a0_0 a0_1):=(crun k 213 (by kernel_rfl) Tryz.func213 rfl).trans (by kernel_rfl)
noncomputable def F214.L3 (k:Nat) (call:zg) (n:Nat) (v0:Ovi.Rows) (v1 v2:Int) (v3 v4:Ovi.Rows) (v5:Int) (v6:List (List D)) (v7:Int) (v8:Ovi.Rows):Option Res:=zp P hs call 214 k Tryz.f214 [1,1,0,1,0] [] n [(2,.var 128 0),(4,.var 256 0),(5,.var 320 0),(11,.d (.list 1 v0)),(12,.d (.int .i64 v1)),(13,.d (.int .i64 v2))] [(128,Blk.var [.d (.list 1 v3),.d (.list 1 v4)]),(256,Blk.var [.d (.int .i64 v5),AV.own 200065 0]),(200065,Blk.arr 3 1 0 v6 (0,0,0)),(320,Blk.var [.d (.int .i64 v7),AV.own 200081 0]),(200081,Blk.arr 3 1 0 v8 (0,0,0))]
theorem F214.L3.succ (k:Nat) (call:zg) (n:Nat) (v0:Ovi.Rows) (v1 v2:Int) (v3 v4:Ovi.Rows) (v5:Int) (v6:List (List D)) (v7:Int) (v8:Ovi.Rows):F214.L3 k call (n+1) v0 v1 v2 v3 v4 v5 v6 v7 v8=ite' (decide (v2 < v1)) (ite' (inR v2 (List.length v0)) (zf (zm .i64 v0 v2.toNat 0) fun n16=>za (call 252 [.agg [.d (.list 1 v3),.d (.list 1 v4)],.d (.int .i64 n16)]) fun r17=>zf (resI .i64 1 false 1 r17 0 0) fun n18=>ite' (inR v2 (List.length v8)) (F214.L3 k call n v0 v1 (IntKind.i64.wrap (v2+1)) v3 v4 v5 v6 v7 (rowsSet v8 v2.toNat 0 [D.int .i64 n18])) none) none) (some ([(true,[.d (.int .i64 v7),.row 3 1 v8])])):=by kernel_rfl
theorem F214.run (k:Nat) (a0_0 a0_1:Ovi.Rows) (a1_0:Int) (a1_1:Ovi.Rows):C (k+1) 214 [.agg [.d (.list 1 a0_0),.d (.list 1 a0_1)],.agg [.d (.int .i64 a1_0),.d (.list 1 a1_1)]]=za ((C k) 221 [.agg [.d (.int .i64 a1_0),.d (.list 1 a1_1)]]) fun r6=>zf (resI .i64 1 true 2 r6 0 0) fun n7=>zc (resO 3 1 1 true 2 r6 0 1) fun l8=>F214.L3 k (C k) k a1_1 (((List.length a1_1):Int)) 0 a0_0 a0_1 0 [] n7 l8:=(crun k 214 (by kernel_rfl) Tryz.func214 rfl).trans (by kernel_rfl)
theorem F217.run (k:Nat) (a0:Ovi.Rows) (a1:FuncId) (a1c:Ovi.Rows):C (k+1) 217 [.d (.list 2 a0),.d (.fn a1 a1c)]=za ((C k) 254 [.d (.list 2 a0),.d (.fn a1 a1c)]) fun r5=>zf (resI .i64 1 false 1 r5 0 0) fun n6=>some ([(false,[.d (.bool (decide (n6 ≥ 0)))])]):=(crun k 217 (by kernel_rfl) Tryz.func217 rfl).trans (by kernel_rfl)
theorem F218.run (k:Nat) (a0_0:Int) (a0_1 c0_0:Ovi.Rows):C (k+1) 218 [.agg [.d (.int .i64 a0_0),.d (.list 1 a0_1)],AV.cap [D.list 3 c0_0] 0]=za ((C k) 219 [.d (.list 3 c0_0),.agg [.d (.int .i64 a0_0),.d (.list 1 a0_1)]]) fun r5=>zi (resB 1 false 1 r5 0 0) fun b6=>some ([(false,[.d (.bool !b6)])]):=(crun k 218 (by kernel_rfl) Tryz.func218 rfl).trans (by kernel_rfl)
theorem F219.run (k:Nat) (a0:Ovi.Rows) (a1_0:Int) (a1_1:Ovi.Rows):C (k+1) 219 [.d (.list 3 a0),.agg [.d (.int .i64 a1_0),.d (.list 1 a1_1)]]=za ((C k) 172 [.d (.list 3 a0)]) fun r5=>zi (resB 1 false 1 r5 0 0) fun b6=>ite' (!b6) (some ([(false,[.d (.bool false)])])) (za ((C k) 73 [.d (.int .i64 a1_0),.d (.int .i64 0),.d (.int .i64 (IntKind.i64.wrap (((List.length a0):Int) - 1)))]) fun r7=>zi (resB 1 false 1 r7 0 0) fun b8=>ite' (!b8) (some ([(false,[.d (.bool false)])])) (ite' (inR a1_0 (List.length a0)) (zf (zm .i64 a0 a1_0.toNat 1) fun n9=>ite' (((List.length a1_1):Int) != n9) (some ([(false,[.d (.bool false)])])) (za ((C k) 163 [.d (.list 1 a1_1),.d (.fn 255 [])]) fun r10=>zi (resB 1 false 1 r10 0 0) fun b11=>some ([(false,[.d (.bool !b11)])]))) none)):=(crun k 219 (by kernel_rfl) Tryz.func219 rfl).trans (by kernel_rfl)
noncomputable def F220.L2 (k:Nat) (call:zg) (n:Nat) (v0:Ovi.Rows) (v1:FuncId) (v2:Ovi.Rows) (v3 v4:Int):Option Res:=zp P hs call 220 k Tryz.f220 [1,0,1,0] [] n [(0,.d (.list 1 v0)),(1,.d (.fn v1 v2)),(7,.d (.int .i64 v3)),(8,.d (.int .i64 v4))] []
theorem F220.L2.succ (k:Nat) (call:zg) (n:Nat) (v0:Ovi.Rows) (v1:FuncId) (v2:Ovi.Rows) (v3 v4:Int):F220.L2 k call (n+1) v0 v1 v2 v3 v4=ite' (decide (v4 < v3)) (ite' (inR v4 (List.length v0)) (zf (zm .i64 v0 v4.toNat 0) fun n11=>za (call v1 (.d (.int .i64 n11)::[].append (List.map (fun (c:List D)=>AV.cap c 0) v2))) fun r12=>zi (resB 1 false 1 r12 0 0) fun b13=>ite' b13 (some ([(false,[.d (.int .i64 v4)])])) (F220.L2 k call n v0 v1 v2 v3 (IntKind.i64.wrap (v4+1)))) none) (some ([(false,[.d (.int .i64 (-1))])])):=by kernel_rfl
theorem F220.run (k:Nat) (a0:Ovi.Rows) (a1:FuncId) (a1c:Ovi.Rows):C (k+1) 220 [.d (.list 1 a0),.d (.fn a1 a1c)]=F220.L2 k (C k) k a0 a1 a1c (((List.length a0):Int)) 0:=(crun k 220 (by kernel_rfl) Tryz.func220 rfl).trans (by kernel_rfl)
theorem F221.run (k:Nat) (a0_0:Int) (a0_1:Ovi.Rows):C (k+1) 221 [.agg [.d (.int .i64 a0_0),.d (.list 1 a0_1)]]=za ((C k) 192 [.d (.list 1 a0_1)]) fun r4=>zc (resO 3 1 1 false 1 r4 0 0) fun l5=>some ([(true,[.d (.int .i64 a0_0),.row 3 1 l5])]):=(crun k 221 (by kernel_rfl) Tryz.func221 rfl).trans (by kernel_rfl)
noncomputable def F224.L3 (k:Nat) (call:zg) (n:Nat) (v0:Int) (v1:Ovi.Rows) (v2 v3:Int):Option Res:=zp P hs call 224 k Tryz.f224 [1,1,0,1,0] [] n [(3,.d (.int .i64 v0)),(6,.d (.list 1 v1)),(7,.d (.int .i64 v2)),(8,.d (.int .i64 v3))] []
theorem F224.L3.succ (k:Nat) (call:zg) (n:Nat) (v0:Int) (v1:Ovi.Rows) (v2 v3:Int):F224.L3 k call (n+1) v0 v1 v2 v3=ite' (decide (v3 < v2)) (ite' (inR v3 (List.length v1)) (zf (zm .i64 v1 v3.toNat 0) fun n8=>ite' (n8 != v0) (some ([(false,[.d (.int .i64 n8)])])) (F224.L3 k call n v0 v1 v2 (IntKind.i64.wrap (v3+1)))) none) (some ([(false,[.d (.int .i64 v0)])])):=by kernel_rfl
theorem F224.run (k:Nat) (a0:Ovi.Rows):C (k+1) 224 [.d (.list 1 a0)]=F224.L3 k (C k) k 0 a0 (((List.length a0):Int)) 0:=(crun k 224 (by kernel_rfl) Tryz.func224 rfl).trans (by kernel_rfl)
theorem F225.run (k:Nat) (a0 a1:Int):C (k+1) 225 [.d (.int .i64 a0),.d (.int .i64 a1)]=za ((C k) 266 [.d (.int .i64 a0)]) fun r4=>zi (resB 1 false 1 r4 0 0) fun b5=>za ((C k) 266 [.d (.int .i64 a1)]) fun r6=>zi (resB 1 false 1 r6 0 0) fun b7=>ite' b5 (ite' b7 (some ([(false,[.d (.int .i64 0)])])) (some ([(false,[.d (.int .i64 (-1))])]))) (ite' b7 (some ([(false,[.d (.int .i64 1)])])) (ite' (decide (a0 < a1)) (some ([(false,[.d (.int .i64 (-1))])])) (ite' (decide (a0 > a1)) (some ([(false,[.d (.int .i64 1)])])) (some ([(false,[.d (.int .i64 0)])]))))):=(crun k 225 (by kernel_rfl) Tryz.func225 rfl).trans (by kernel_rfl)
noncomputable def F226.L2 (k:Nat) (call:zg) (n:Nat) (v0 v1 v2:Ovi.Rows) (v3 v4:Int):Option Res:=zp P hs call 226 k Tryz.f226 [1,0,1,0] [] n [(0,.d (.list 1 v0)),(1,.d (.list 1 v1)),(9,.d (.list 1 v2)),(10,.d (.int .i64 v3)),(11,.d (.int .i64 v4))] []
theorem F226.L2.succ (k:Nat) (call:zg) (n:Nat) (v0 v1 v2:Ovi.Rows) (v3 v4:Int):F226.L2 k call (n+1) v0 v1 v2 v3 v4=ite' (decide (v4 < v3)) (ite' (inR v4 (List.length v2)) (zf (zm .i64 v2 v4.toNat 0) fun n10=>ite' (decide (v4 ≥ ((List.length v1):Int))) (some ([(false,[.d (.int .i64 1)])])) (ite' (inR v4 (List.length v1)) (zf (zm .i64 v1 v4.toNat 0) fun n11=>za (call 225 [.d (.int .i64 n10),.d (.int .i64 n11)]) fun r12=>zf (resI .i64 1 false 1 r12 0 0) fun n13=>ite' (n13 != 0) (some ([(false,[.d (.int .i64 n13)])])) (F226.L2 k call n v0 v1 v2 v3 (IntKind.i64.wrap (v4+1)))) none)) none) (ite' (decide (((List.length v0):Int) < ((List.length v1):Int))) (some ([(false,[.d (.int .i64 (-1))])])) (some ([(false,[.d (.int .i64 0)])]))):=by kernel_rfl
theorem F226.run (k:Nat) (a0 a1:Ovi.Rows):C (k+1) 226 [.d (.list 1 a0),.d (.list 1 a1)]=F226.L2 k (C k) k a0 a1 a0 (((List.length a0):Int)) 0:=(crun k 226 (by kernel_rfl) Tryz.func226 rfl).trans (by kernel_rfl)
theorem F227.run (k:Nat) (a0_0:List UInt8) (a0_1:Int) (a0_2:Bool):C (k+1) 227 [.agg [.d (.str a0_0),.d (.int .i64 a0_1),.d (.bool a0_2)]]=ite' ((↑a0_0.length:Int)==1) (ite' (!zaR a0_0 ([(97:UInt8)]:List UInt8)) (ite' (zaR a0_0 ([(122:UInt8)]:List UInt8)||a0_0==([(122:UInt8)]:List UInt8)) (za ((C k) 73 [.d (.int .i64 a0_1),.d (.int .i64 1),.d (.int .i64 3)]) fun r5=>zi (resB 1 false 1 r5 0 0) fun b6=>some ([(false,[.d (.bool b6)])])) (some ([(false,[.d (.bool false)])]))) (some ([(false,[.d (.bool false)])]))) (some ([(false,[.d (.bool false)])])):=(crun k 227 (by kernel_rfl) Tryz.func227 rfl).trans (by kernel_rfl)
theorem F228.run (k:Nat) (a0:Int):C (k+1) 228 [.d (.int .i64 a0)]=za ((C k) 165 [.d (.int .i64 a0)]) fun r3=>zi (resB 1 false 1 r3 0 0) fun b4=>some ([(false,[.d (.bool !b4)])]):=(crun k 228 (by kernel_rfl) Tryz.func228 rfl).trans (by kernel_rfl)
noncomputable def F229.L5 (k:Nat) (call:zg) (n:Nat) (v0 v1:Int) (v2:Ovi.Rows) (v3:Int) (v4 v5:Ovi.Rows):Option Res:=zp P hs call 229 k Tryz.f229 [1,1,1,0,1,0] [] n [(3,.var 192 0),(4,.var 256 0),(8,AV.own 100008 0),(9,.d (.int .i64 v0))] [(192,Blk.var [.d (.int .i64 v1),.d (.list 1 v2)]),(256,Blk.var [.d (.int .i64 v3),.d (.list 1 v4)]),(100008,Blk.arr 3 1 0 v5 (0,0,0))]
theorem F229.L5.succ (k:Nat) (call:zg) (n:Nat) (v0 v1:Int) (v2:Ovi.Rows) (v3:Int) (v4 v5:Ovi.Rows):F229.L5 k call (n+1) v0 v1 v2 v3 v4 v5=ite' (decide (v0 < ((List.length v2):Int))) (ite' (inR v0 (List.length v2)) (zf (zm .i64 v2 v0.toNat 0) fun n14=>ite' (decide (n14 < 0)) (ite' (inR v0 (List.length v4)) (zf (zm .i64 v4 v0.toNat 0) fun n15=>ite' (IntKind.i64.wrap ((-1) - n14) != n15) (some ([(false,[.row 3 1 v5]),(false,[.d (.bool false)])])) (F229.L5 k call n (IntKind.i64.wrap (v0+1)) v1 v2 v3 v4 v5)) none) (ite' (inR n14 (List.length v5)) (zf (zm .i64 v5 n14.toNat 0) fun n15=>za (call 196 []) fun r16=>zf (resI .i64 1 false 1 r16 0 0) fun n17=>ite' (n15 != n17) (ite' (inR n14 (List.length v5)) (zf (zm .i64 v5 n14.toNat 0) fun n18=>ite' (inR v0 (List.length v4)) (zf (zm .i64 v4 v0.toNat 0) fun n19=>ite' (n18 != n19) (some ([(false,[.row 3 1 v5]),(false,[.d (.bool false)])])) (ite' (inR v0 (List.length v4)) (zf (zm .i64 v4 v0.toNat 0) fun n20=>ite' (inR n14 (List.length v5)) (F229.L5 k call n (IntKind.i64.wrap (v0+1)) v1 v2 v3 v4 (rowsSet v5 n14.toNat 0 [D.int .i64 n20])) none) none)) none) none) (ite' (inR v0 (List.length v4)) (zf (zm .i64 v4 v0.toNat 0) fun n18=>ite' (inR n14 (List.length v5)) (F229.L5 k call n (IntKind.i64.wrap (v0+1)) v1 v2 v3 v4 (rowsSet v5 n14.toNat 0 [D.int .i64 n18])) none) none)) none)) none) (some ([(false,[.row 3 1 v5]),(false,[.d (.bool true)])])):=by kernel_rfl
theorem F229.run (k:Nat) (a0_0:Int) (a0_1:Ovi.Rows) (a1_0:Int) (a1_1 a2:Ovi.Rows):C (k+1) 229 [.agg [.d (.int .i64 a0_0),.d (.list 1 a0_1)],.agg [.d (.int .i64 a1_0),.d (.list 1 a1_1)],.d (.list 1 a2)]=ite' (fits (List.length a2)) (ite' (a0_0 != a1_0) (some ([(false,[.row 3 1 a2]),(false,[.d (.bool false)])])) (ite' (((List.length a0_1):Int) != ((List.length a1_1):Int)) (some ([(false,[.row 3 1 a2]),(false,[.d (.bool false)])])) (F229.L5 k (C k) k 0 a0_0 a0_1 a1_0 a1_1 a2))) none:=(crun k 229 (by kernel_rfl) Tryz.func229 rfl).trans (by kernel_rfl)
theorem F230.run (k:Nat) (a0_0 a0_1 a1:Ovi.Rows):C (k+1) 230 [.agg [.d (.list 3 a0_0),.d (.list 2 a0_1)],.d (.list 2 a1)]=za ((C k) 100 [.agg [.d (.list 3 a0_0),.d (.list 2 a0_1)]]) fun r5=>zi (resB 1 false 1 r5 0 0) fun b6=>ite' b6 (ite' (((List.length a1):Int)==0) (some ([(false,[.d (.bool true)])])) (za ((C k) 162 [.d (.list 3 a0_0),.d (.list 2 a1),.d (.int .i64 3)]) fun r7=>zi (resB 1 false 1 r7 0 0) fun b8=>some ([(false,[.d (.bool b8)])]))) (some ([(false,[.d (.bool false)])])):=(crun k 230 (by kernel_rfl) Tryz.func230 rfl).trans (by kernel_rfl)
noncomputable def F231.L5 (k:Nat) (call:zg) (n:Nat) (v0 v1 v2 v3:Ovi.Rows) (v4 v5:Int) (v6:List (List D)):Option Res:=zp P hs call 231 k Tryz.f231 [1,1,1,0,1,0] [] n [(0,.d (.list 2 v0)),(1,.d (.list 2 v1)),(2,.d (.list 1 v2)),(7,AV.own 100007 0),(18,.d (.list 2 v3)),(19,.d (.int .i64 v4)),(20,.d (.int .i64 v5))] [(100007,Blk.arr 39 1 0 v6 (0,0,0))]
theorem F231.L5.succ (k:Nat) (call:zg) (n:Nat) (v0 v1 v2 v3:Ovi.Rows) (v4 v5:Int) (v6:List (List D)):F231.L5 k call (n+1) v0 v1 v2 v3 v4 v5 v6=ite' (decide (v5 < v4)) (ite' (inR v5 (List.length v3)) (zf (zm .i64 v3 v5.toNat 0) fun n13=>zc (zr 1 v3 v5.toNat 1) fun l14=>ite' (inR 0 (List.length v1)) (zf (zm .i64 v1 0 0) fun n15=>zc (zr 1 v1 0 1) fun l16=>za (call 267 [.d (.list 1 v2),.agg [.d (.int .i64 n15),.d (.list 1 l16)],.agg [.d (.int .i64 n13),.d (.list 1 l14)]]) fun r17=>zc (resO 3 1 2 false 1 r17 0 0) fun l18=>zi (resB 2 false 1 r17 1 0) fun b19=>ite' b19 (ite' (inS 1 ((List.length v1):Int) (List.length v1)) (za (call 231 [.d (.list 2 v0),.d (.list 2 (List.drop 1 v1)),.d (.list 1 l18)]) fun r20=>zc (resO 39 1 1 false 1 r20 0 0) fun l21=>ite' (fits (v6.length+List.length l21)) (F231.L5 k call n v0 v1 v2 v3 v4 (IntKind.i64.wrap (v5+1)) (v6++l21)) none) none) (F231.L5 k call n v0 v1 v2 v3 v4 (IntKind.i64.wrap (v5+1)) v6)) none) none) (some ([(false,[.row 39 1 v6])])):=by kernel_rfl
theorem F231.run (k:Nat) (a0 a1 a2:Ovi.Rows):C (k+1) 231 [.d (.list 2 a0),.d (.list 2 a1),.d (.list 1 a2)]=ite' (((List.length a1):Int)==0) (some ([(false,[.row 39 1 [[D.list 1 a2]]])])) (F231.L5 k (C k) k a0 a1 a2 a0 (((List.length a0):Int)) 0 []):=(crun k 231 (by kernel_rfl) Tryz.func231 rfl).trans (by kernel_rfl)
theorem F232.run (k:Nat):C (k+1) 232 []=za ((C k) 268 [.d (.list 1 [[D.int .i64 10]]),.d (.int .i64 5)]) fun r2=>zc (resO 3 1 1 false 1 r2 0 0) fun l3=>some ([(false,[.row 3 1 l3])]):=(crun k 232 (by kernel_rfl) Tryz.func232 rfl).trans (by kernel_rfl)
theorem F233.run (k:Nat) (a0 a1:Ovi.Rows):C (k+1) 233 [.d (.list 1 a0),.d (.list 1 a1)]=za ((C k) 269 [.d (.list 1 a0),.d (.fn 270 [[D.list 1 a1]])]) fun r4=>zi (resB 1 false 1 r4 0 0) fun b5=>some ([(false,[.d (.bool b5)])]):=(crun k 233 (by kernel_rfl) Tryz.func233 rfl).trans (by kernel_rfl)
noncomputable def F236.L4 (k:Nat) (call:zg) (n:Nat) (v0 v1:Ovi.Rows) (v2 v3:Int):Option Res:=zp P hs call 236 k Tryz.f236 [1,1,0,1,0] [] n [(0,.d (.list 1 v0)),(1,.d (.list 1 v1)),(12,.d (.int .i64 v2)),(13,.d (.int .i64 v3))] []
theorem F236.L4.succ (k:Nat) (call:zg) (n:Nat) (v0 v1:Ovi.Rows) (v2 v3:Int):F236.L4 k call (n+1) v0 v1 v2 v3=ite' (decide (v3 < v2)) (ite' (inR v3 (List.length v0)) (zf (zm .i64 v0 v3.toNat 0) fun n9=>ite' (inR v3 (List.length v1)) (zf (zm .i64 v1 v3.toNat 0) fun n10=>ite' (n9 != n10) (some ([(false,[.d (.bool false)])])) (F236.L4 k call n v0 v1 v2 (IntKind.i64.wrap (v3+1)))) none) none) (some ([(false,[.d (.bool true)])])):=by kernel_rfl
theorem F236.run (k:Nat) (a0 a1:Ovi.Rows):C (k+1) 236 [.d (.list 1 a0),.d (.list 1 a1)]=ite' (((List.length a0):Int) != ((List.length a1):Int)) (some ([(false,[.d (.bool false)])])) (F236.L4 k (C k) k a0 a1 (((List.length a0):Int)) 0):=(crun k 236 (by kernel_rfl) Tryz.func236 rfl).trans (by kernel_rfl)
noncomputable def F237.L2 (k:Nat) (call:zg) (n:Nat) (v0:Ovi.Rows) (v1:FuncId) (v2:Ovi.Rows) (v3 v4:Int):Option Res:=zp P hs call 237 k Tryz.f237 [1,0,1,0] [] n [(0,.d (.list 5 v0)),(1,.d (.fn v1 v2)),(7,.d (.int .i64 v3)),(8,.d (.int .i64 v4))] []
theorem F237.L2.succ (k:Nat) (call:zg) (n:Nat) (v0:Ovi.Rows) (v1:FuncId) (v2:Ovi.Rows) (v3 v4:Int):F237.L2 k call (n+1) v0 v1 v2 v3 v4=ite' (decide (v4 < v3)) (ite' (inR v4 (List.length v0)) (zc (zr 2 v0 v4.toNat 0) fun l11=>zc (zr 2 v0 v4.toNat 1) fun l12=>zi (zam v0 v4.toNat 2) fun b13=>zf (zm .i64 v0 v4.toNat 3) fun n14=>zf (zm .i64 v0 v4.toNat 4) fun n15=>za (call v1 (.agg [.d (.list 2 l11),.d (.list 2 l12),.d (.bool b13),.d (.int .i64 n14),.d (.int .i64 n15)]::[].append (List.map (fun (c:List D)=>AV.cap c 0) v2))) fun r16=>zi (resB 1 false 1 r16 0 0) fun b17=>ite' b17 (some ([(false,[.d (.int .i64 v4)])])) (F237.L2 k call n v0 v1 v2 v3 (IntKind.i64.wrap (v4+1)))) none) (some ([(false,[.d (.int .i64 (-1))])])):=by kernel_rfl
theorem F237.run (k:Nat) (a0:Ovi.Rows) (a1:FuncId) (a1c:Ovi.Rows):C (k+1) 237 [.d (.list 5 a0),.d (.fn a1 a1c)]=F237.L2 k (C k) k a0 a1 a1c (((List.length a0):Int)) 0:=(crun k 237 (by kernel_rfl) Tryz.func237 rfl).trans (by kernel_rfl)
theorem F238.run (k:Nat) (a0_0:Int) (a0_1 c0_0:Ovi.Rows):C (k+1) 238 [.agg [.d (.int .i64 a0_0),.d (.list 1 a0_1)],AV.cap [D.list 3 c0_0] 0]=ite' (inR a0_0 (List.length c0_0)) (zi (zam c0_0 a0_0.toNat 2) fun b5=>some ([(false,[.d (.bool b5)])])) none:=(crun k 238 (by kernel_rfl) Tryz.func238 rfl).trans (by kernel_rfl)
theorem F239.run (k:Nat) (a0_0 a0_1 a1 a2:Ovi.Rows):C (k+1) 239 [.agg [.d (.list 3 a0_0),.d (.list 2 a0_1)],.d (.list 2 a1),.d (.list 1 a2)]=za ((C k) 230 [.agg [.d (.list 3 a0_0),.d (.list 2 a0_1)],.d (.list 2 a1)]) fun r6=>zi (resB 1 false 1 r6 0 0) fun b7=>ite' b7 (ite' (((List.length a2):Int)==5) (za ((C k) 192 [.d (.list 1 a2)]) fun r8=>zc (resO 3 1 1 false 1 r8 0 0) fun l9=>za ((C k) 231 [.d (.list 2 a0_1),.d (.list 2 a1),.d (.list 1 l9)]) fun r10=>zc (resO 39 1 1 false 1 r10 0 0) fun l11=>some ([(false,[.d (.bool (decide (((List.length l11):Int) > 0)))])])) (some ([(false,[.d (.bool false)])]))) (some ([(false,[.d (.bool false)])])):=(crun k 239 (by kernel_rfl) Tryz.func239 rfl).trans (by kernel_rfl)
noncomputable def F240.L3 (k:Nat) (call:zg) (n:Nat) (v0:Bool) (v1 v2:Int) (v3:Ovi.Rows) (v4:List (List D)) (v5:Ovi.Rows):Option Res:=zp P hs call 240 k Tryz.f240 [1,1,0,1,0] [] n [(1,.d (.bool v0)),(5,AV.own 100005 0),(6,AV.own 100006 0),(15,AV.own 100015 0),(16,.d (.int .i64 v1)),(17,.d (.int .i64 v2))] [(100005,Blk.arr 3 1 0 v3 (0,0,0)),(100006,Blk.arr 3 1 0 v4 (0,0,0)),(100015,Blk.arr 3 1 0 v5 (0,0,0))]
theorem F240.L3.succ (k:Nat) (call:zg) (n:Nat) (v0:Bool) (v1 v2:Int) (v3:Ovi.Rows) (v4:List (List D)) (v5:Ovi.Rows):F240.L3 k call (n+1) v0 v1 v2 v3 v4 v5=ite' (decide (v2 < v1)) (ite' (inR v2 (List.length v5)) (zf (zm .i64 v5 v2.toNat 0) fun n15=>za (call 83 [.d (.list 1 v3),.d (.int .i64 n15)]) fun r16=>zi (resB 1 false 1 r16 0 0) fun b17=>ite' (b17==v0) (ite' (fits (v4.length+[[D.int .i64 n15]].length)) (F240.L3 k call n v0 v1 (IntKind.i64.wrap (v2+1)) v3 (v4++[[D.int .i64 n15]]) v5) none) (F240.L3 k call n v0 v1 (IntKind.i64.wrap (v2+1)) v3 v4 v5)) none) (some ([(false,[.row 3 1 v4])])):=by kernel_rfl
theorem F240.run (k:Nat) (a0_0 a0_1:Ovi.Rows) (a0_2:Bool) (a0_3 a0_4:Int) (a1:Bool):C (k+1) 240 [.agg [.d (.list 2 a0_0),.d (.list 2 a0_1),.d (.bool a0_2),.d (.int .i64 a0_3),.d (.int .i64 a0_4)],.d (.bool a1)]=za ((C k) 161 [.d (.list 2 a0_0)]) fun r8=>zc (resO 3 1 1 false 1 r8 0 0) fun l9=>za ((C k) 161 [.d (.list 2 a0_1)]) fun r10=>zc (resO 3 1 1 false 1 r10 0 0) fun l11=>F240.L3 k (C k) k a1 (((List.length l11):Int)) 0 l9 [] l11:=(crun k 240 (by kernel_rfl) Tryz.func240 rfl).trans (by kernel_rfl)
theorem F245.run (k:Nat) (a0:Ovi.Rows) (a1:FuncId) (a1c:Ovi.Rows):C (k+1) 245 [.d (.list 2 a0),.d (.fn a1 a1c)]=za ((C k) 273 [.d (.list 2 a0),.d (.fn a1 a1c)]) fun r5=>zf (resI .i64 1 false 1 r5 0 0) fun n6=>some ([(false,[.d (.bool (decide (n6 ≥ 0)))])]):=(crun k 245 (by kernel_rfl) Tryz.func245 rfl).trans (by kernel_rfl)
theorem F246.run (k:Nat) (a0_0:Int) (a0_1:Ovi.Rows) (c0_0:Int) (c0_1:Ovi.Rows):C (k+1) 246 [.agg [.d (.int .i64 a0_0),.d (.list 1 a0_1)],AV.cap [D.int .i64 c0_0,D.list 1 c0_1] 0]=za ((C k) 171 [.agg [.d (.int .i64 a0_0),.d (.list 1 a0_1)],.agg [.d (.int .i64 c0_0),.d (.list 1 c0_1)]]) fun r6=>zi (resB 1 false 1 r6 0 0) fun b7=>some ([(false,[.d (.bool b7)])]):=(crun k 246 (by kernel_rfl) Tryz.func246 rfl).trans (by kernel_rfl)
noncomputable def F249.L3 (k:Nat) (call:zg) (n:Nat) (v0:Ovi.Rows) (v1:Int) (v2 v3:Ovi.Rows) (v4:List (List D)):Option Res:=zp P hs call 249 k Tryz.f249 [1,1,0,1,0] [] n [(1,.d (.list 5 v0)),(2,.var 128 0),(5,AV.own 100005 0),(6,.d (.int .i64 v1))] [(128,Blk.var [.d (.list 3 v2),.d (.list 2 v3)]),(100005,Blk.arr 154 2 0 v4 (0,0,0))]
noncomputable def F249.L7 (k:Nat) (call:zg) (k3 n:Nat) (v0:Ovi.Rows) (v1 v2:Int) (v3 v4:Ovi.Rows) (v5:List (List D)) (v6:Ovi.Rows):Option Res:=zp P hs call 249 k Tryz.f249 [1,1,0,1,0,0,1,0,0,1,1,0] [k3] n [(1,.d (.list 5 v0)),(2,.var 128 0),(5,AV.own 100005 0),(6,.d (.int .i64 v1)),(7,AV.own 100007 0),(8,.d (.int .i64 v2))] [(128,Blk.var [.d (.list 3 v3),.d (.list 2 v4)]),(100005,Blk.arr 154 2 0 v5 (0,0,0)),(100007,Blk.arr 39 1 0 v6 (0,0,0))]
theorem F249.L3.succ (k:Nat) (call:zg) (n:Nat) (v0:Ovi.Rows) (v1:Int) (v2 v3:Ovi.Rows) (v4:List (List D)):F249.L3 k call (n+1) v0 v1 v2 v3 v4=ite' (decide (v1 < ((List.length v0):Int))) (ite' (inR v1 (List.length v0)) (zc (zr 2 v0 v1.toNat 0) fun l11=>zc (zr 2 v0 v1.toNat 1) fun l12=>zi (zam v0 v1.toNat 2) fun b13=>zf (zm .i64 v0 v1.toNat 3) fun n14=>zf (zm .i64 v0 v1.toNat 4) fun n15=>za (call 274 [.agg [.d (.list 3 v2),.d (.list 2 v3)],.agg [.d (.list 2 l11),.d (.list 2 l12),.d (.bool b13),.d (.int .i64 n14),.d (.int .i64 n15)]]) fun r16=>zc (resO 39 1 1 false 1 r16 0 0) fun l17=>F249.L7 k call n k v0 v1 0 v2 v3 v4 l17) none) (some ([(false,[.row 154 2 v4])])):=by kernel_rfl
theorem F249.L7.succ (k:Nat) (call:zg) (k3 n:Nat) (v0:Ovi.Rows) (v1 v2:Int) (v3 v4:Ovi.Rows) (v5:List (List D)) (v6:Ovi.Rows):F249.L7 k call k3 (n+1) v0 v1 v2 v3 v4 v5 v6=ite' (decide (v2 < ((List.length v6):Int))) (ite' (inR v2 (List.length v6)) (zc (zr 1 v6 v2.toNat 0) fun l14=>ite' (fits (v5.length+[[D.int .i64 v1,D.list 1 l14]].length)) (F249.L7 k call k3 n v0 v1 (IntKind.i64.wrap (v2+1)) v3 v4 (v5++[[D.int .i64 v1,D.list 1 l14]]) v6) none) none) (F249.L3 k call k3 v0 (IntKind.i64.wrap (v1+1)) v3 v4 v5):=by kernel_rfl
theorem F249.run (k:Nat) (a0_0 a0_1 a1:Ovi.Rows):C (k+1) 249 [.agg [.d (.list 3 a0_0),.d (.list 2 a0_1)],.d (.list 5 a1)]=F249.L3 k (C k) k a1 0 a0_0 a0_1 []:=(crun k 249 (by kernel_rfl) Tryz.func249 rfl).trans (by kernel_rfl)
theorem F250.run (k:Nat) (a0 a1:Int):C (k+1) 250 [.d (.int .i64 a0),.d (.int .i64 a1)]=ite' (a1==0) none (ite' (a1==0) none (some ([(false,[.d (.int .i64 ((IntKind.i64.wrap (a0.tmod a1+a1)).tmod a1))])]))):=(crun k 250 (by kernel_rfl) Tryz.func250 rfl).trans (by kernel_rfl)
noncomputable def F251.L3 (k:Nat) (call:zg) (n:Nat) (v0:Ovi.Rows) (v1 v2:Int) (v3 v4:Ovi.Rows) (v5:List (List D)):Option Res:=zp P hs call 251 k Tryz.f251 [1,1,0,1,0] [] n [(2,.var 128 0),(5,AV.own 100005 0),(11,.d (.list 5 v0)),(12,.d (.int .i64 v1)),(13,.d (.int .i64 v2))] [(128,Blk.var [.d (.list 3 v3),.d (.list 2 v4)]),(100005,Blk.arr 154 2 0 v5 (0,0,0))]
noncomputable def F251.L6 (k:Nat) (call:zg) (k3 n:Nat) (v0:Int) (v1:Ovi.Rows) (v2 v3 v4 v5:Int) (v6 v7:Ovi.Rows) (v8:List (List D)) (v9:Ovi.Rows):Option Res:=zp P hs call 251 k Tryz.f251 [1,1,0,1,0,0,1,1,0,0,1,1,0] [k3] n [(2,.var 128 0),(5,AV.own 100005 0),(6,.d (.int .i64 v0)),(11,.d (.list 5 v1)),(12,.d (.int .i64 v2)),(13,.d (.int .i64 v3)),(20,AV.own 100020 0),(21,.d (.int .i64 v4)),(22,.d (.int .i64 v5))] [(128,Blk.var [.d (.list 3 v6),.d (.list 2 v7)]),(100005,Blk.arr 154 2 0 v8 (0,0,0)),(100020,Blk.arr 39 1 0 v9 (0,0,0))]
theorem F251.L3.succ (k:Nat) (call:zg) (n:Nat) (v0:Ovi.Rows) (v1 v2:Int) (v3 v4:Ovi.Rows) (v5:List (List D)):F251.L3 k call (n+1) v0 v1 v2 v3 v4 v5=ite' (decide (v2 < v1)) (ite' (inR v2 (List.length v0)) (zc (zr 2 v0 v2.toNat 0) fun l12=>zc (zr 2 v0 v2.toNat 1) fun l13=>zi (zam v0 v2.toNat 2) fun b14=>zf (zm .i64 v0 v2.toNat 3) fun n15=>zf (zm .i64 v0 v2.toNat 4) fun n16=>za (call 275 [.agg [.d (.list 3 v3),.d (.list 2 v4)],.agg [.d (.list 2 l12),.d (.list 2 l13),.d (.bool b14),.d (.int .i64 n15),.d (.int .i64 n16)]]) fun r17=>zc (resO 39 1 1 false 1 r17 0 0) fun l18=>F251.L6 k call n k v2 v0 v1 v2 (((List.length l18):Int)) 0 v3 v4 v5 l18) none) (some ([(false,[.row 154 2 v5])])):=by kernel_rfl
theorem F251.L6.succ (k:Nat) (call:zg) (k3 n:Nat) (v0:Int) (v1:Ovi.Rows) (v2 v3 v4 v5:Int) (v6 v7:Ovi.Rows) (v8:List (List D)) (v9:Ovi.Rows):F251.L6 k call k3 (n+1) v0 v1 v2 v3 v4 v5 v6 v7 v8 v9=ite' (decide (v5 < v4)) (ite' (inR v5 (List.length v9)) (zc (zr 1 v9 v5.toNat 0) fun l17=>ite' (fits (v8.length+[[D.int .i64 v0,D.list 1 l17]].length)) (F251.L6 k call k3 n v0 v1 v2 v3 v4 (IntKind.i64.wrap (v5+1)) v6 v7 (v8++[[D.int .i64 v0,D.list 1 l17]]) v9) none) none) (F251.L3 k call k3 v1 v2 (IntKind.i64.wrap (v3+1)) v6 v7 v8):=by kernel_rfl
theorem F251.run (k:Nat) (a0_0 a0_1 a1:Ovi.Rows):C (k+1) 251 [.agg [.d (.list 3 a0_0),.d (.list 2 a0_1)],.d (.list 5 a1)]=F251.L3 k (C k) k a1 (((List.length a1):Int)) 0 a0_0 a0_1 []:=(crun k 251 (by kernel_rfl) Tryz.func251 rfl).trans (by kernel_rfl)
theorem F252.run (k:Nat) (a0_0 a0_1:Ovi.Rows) (a1:Int):C (k+1) 252 [.agg [.d (.list 1 a0_0),.d (.list 1 a0_1)],.d (.int .i64 a1)]=za ((C k) 82 [.d (.int .i64 a1)]) fun r5=>zf (resI .i64 2 false 1 r5 0 0) fun n6=>zi (resB 2 false 1 r5 1 0) fun b7=>za ((C k) 85 [.d (.list 1 a0_0),.d (.int .i64 n6)]) fun r8=>zf (resI .i64 1 false 1 r8 0 0) fun n9=>ite' (!b7) (some ([(false,[.d (.int .i64 a1)])])) (ite' (decide (n9 < 0)) (some ([(false,[.d (.int .i64 a1)])])) (za ((C k) 213 [.agg [.d (.list 1 a0_0),.d (.list 1 a0_1)]]) fun r10=>zi (resB 1 false 1 r10 0 0) fun b11=>ite' (!b11) (some ([(false,[.d (.int .i64 a1)])])) (ite' (inR n9 (List.length a0_1)) (zf (zm .i64 a0_1 n9.toNat 0) fun n12=>some ([(false,[.d (.int .i64 n12)])])) none))):=(crun k 252 (by kernel_rfl) Tryz.func252 rfl).trans (by kernel_rfl)
noncomputable def F254.L2 (k:Nat) (call:zg) (n:Nat) (v0:Ovi.Rows) (v1:FuncId) (v2:Ovi.Rows) (v3 v4:Int):Option Res:=zp P hs call 254 k Tryz.f254 [1,0,1,0] [] n [(0,.d (.list 2 v0)),(1,.d (.fn v1 v2)),(7,.d (.int .i64 v3)),(8,.d (.int .i64 v4))] []
theorem F254.L2.succ (k:Nat) (call:zg) (n:Nat) (v0:Ovi.Rows) (v1:FuncId) (v2:Ovi.Rows) (v3 v4:Int):F254.L2 k call (n+1) v0 v1 v2 v3 v4=ite' (decide (v4 < v3)) (ite' (inR v4 (List.length v0)) (zf (zm .i64 v0 v4.toNat 0) fun n11=>zc (zr 1 v0 v4.toNat 1) fun l12=>za (call v1 (.agg [.d (.int .i64 n11),.d (.list 1 l12)]::[].append (List.map (fun (c:List D)=>AV.cap c 0) v2))) fun r13=>zi (resB 1 false 1 r13 0 0) fun b14=>ite' b14 (some ([(false,[.d (.int .i64 v4)])])) (F254.L2 k call n v0 v1 v2 v3 (IntKind.i64.wrap (v4+1)))) none) (some ([(false,[.d (.int .i64 (-1))])])):=by kernel_rfl
theorem F254.run (k:Nat) (a0:Ovi.Rows) (a1:FuncId) (a1c:Ovi.Rows):C (k+1) 254 [.d (.list 2 a0),.d (.fn a1 a1c)]=F254.L2 k (C k) k a0 a1 a1c (((List.length a0):Int)) 0:=(crun k 254 (by kernel_rfl) Tryz.func254 rfl).trans (by kernel_rfl)
theorem F255.run (k:Nat) (a0:Int):C (k+1) 255 [.d (.int .i64 a0)]=za ((C k) 73 [.d (.int .i64 a0),.d (.int .i64 (-10)),.d (.int .i64 4)]) fun r3=>zi (resB 1 false 1 r3 0 0) fun b4=>some ([(false,[.d (.bool !b4)])]):=(crun k 255 (by kernel_rfl) Tryz.func255 rfl).trans (by kernel_rfl)
theorem F266.run (k:Nat) (a0:Int):C (k+1) 266 [.d (.int .i64 a0)]=some ([(false,[.d (.bool (a0 != a0))])]):=(crun k 266 (by kernel_rfl) Tryz.func266 rfl).trans (by kernel_rfl)
noncomputable def F267.L5 (k:Nat) (call:zg) (n:Nat) (v0:Ovi.Rows) (v1 v2 v3:Int) (v4 v5:Ovi.Rows):Option Res:=zp P hs call 267 k Tryz.f267 [1,1,1,0,1,0] [] n [(5,.var 320 0),(8,AV.own 100008 0),(20,.d (.list 1 v0)),(21,.d (.int .i64 v1)),(22,.d (.int .i64 v2))] [(320,Blk.var [.d (.int .i64 v3),.d (.list 1 v4)]),(100008,Blk.arr 3 1 0 v5 (0,0,0))]
theorem F267.L5.succ (k:Nat) (call:zg) (n:Nat) (v0:Ovi.Rows) (v1 v2 v3:Int) (v4 v5:Ovi.Rows):F267.L5 k call (n+1) v0 v1 v2 v3 v4 v5=ite' (decide (v2 < v1)) (ite' (inR v2 (List.length v0)) (zf (zm .i64 v0 v2.toNat 0) fun n14=>ite' (inR v2 (List.length v4)) (zf (zm .i64 v4 v2.toNat 0) fun n15=>ite' (decide (n14 < 0)) (ite' (n15 != IntKind.i64.wrap ((-1) - n14)) (some ([(false,[.nil]),(false,[.d (.bool false)])])) (F267.L5 k call n v0 v1 (IntKind.i64.wrap (v2+1)) v3 v4 v5)) (ite' (inR n14 (List.length v5)) (zf (zm .i64 v5 n14.toNat 0) fun n16=>ite' (n16==10) (ite' (inR n14 (List.length v5)) (F267.L5 k call n v0 v1 (IntKind.i64.wrap (v2+1)) v3 v4 (rowsSet v5 n14.toNat 0 [D.int .i64 n15])) none) (ite' (inR n14 (List.length v5)) (zf (zm .i64 v5 n14.toNat 0) fun n17=>ite' (n17 != n15) (some ([(false,[.nil]),(false,[.d (.bool false)])])) (F267.L5 k call n v0 v1 (IntKind.i64.wrap (v2+1)) v3 v4 v5)) none)) none)) none) none) (some ([(false,[.row 3 1 v5]),(false,[.d (.bool true)])])):=by kernel_rfl
theorem F267.run (k:Nat) (a0:Ovi.Rows) (a1_0:Int) (a1_1:Ovi.Rows) (a2_0:Int) (a2_1:Ovi.Rows):C (k+1) 267 [.d (.list 1 a0),.agg [.d (.int .i64 a1_0),.d (.list 1 a1_1)],.agg [.d (.int .i64 a2_0),.d (.list 1 a2_1)]]=ite' (a1_0 != a2_0) (some ([(false,[.nil]),(false,[.d (.bool false)])])) (za ((C k) 192 [.d (.list 1 a0)]) fun r7=>zc (resO 3 1 1 false 1 r7 0 0) fun l8=>F267.L5 k (C k) k a1_1 (((List.length a1_1):Int)) 0 a2_0 a2_1 l8):=(crun k 267 (by kernel_rfl) Tryz.func267 rfl).trans (by kernel_rfl)
theorem F269.run (k:Nat) (a0:Ovi.Rows) (a1:FuncId) (a1c:Ovi.Rows):C (k+1) 269 [.d (.list 1 a0),.d (.fn a1 a1c)]=za ((C k) 291 [.d (.list 1 a0),.d (.fn a1 a1c)]) fun r5=>zf (resI .i64 1 false 1 r5 0 0) fun n6=>some ([(false,[.d (.bool (decide (n6 ≥ 0)))])]):=(crun k 269 (by kernel_rfl) Tryz.func269 rfl).trans (by kernel_rfl)
theorem F270.run (k:Nat) (a0 c0_0:Ovi.Rows):C (k+1) 270 [.d (.list 1 a0),AV.cap [D.list 1 c0_0] 0]=za ((C k) 236 [.d (.list 1 a0),.d (.list 1 c0_0)]) fun r4=>zi (resB 1 false 1 r4 0 0) fun b5=>some ([(false,[.d (.bool b5)])]):=(crun k 270 (by kernel_rfl) Tryz.func270 rfl).trans (by kernel_rfl)
noncomputable def F273.L2 (k:Nat) (call:zg) (n:Nat) (v0:Ovi.Rows) (v1:FuncId) (v2:Ovi.Rows) (v3 v4:Int):Option Res:=zp P hs call 273 k Tryz.f273 [1,0,1,0] [] n [(0,.d (.list 2 v0)),(1,.d (.fn v1 v2)),(7,.d (.int .i64 v3)),(8,.d (.int .i64 v4))] []
theorem F273.L2.succ (k:Nat) (call:zg) (n:Nat) (v0:Ovi.Rows) (v1:FuncId) (v2:Ovi.Rows) (v3 v4:Int):F273.L2 k call (n+1) v0 v1 v2 v3 v4=ite' (decide (v4 < v3)) (ite' (inR v4 (List.length v0)) (zf (zm .i64 v0 v4.toNat 0) fun n11=>zc (zr 1 v0 v4.toNat 1) fun l12=>za (call v1 (.agg [.d (.int .i64 n11),.d (.list 1 l12)]::[].append (List.map (fun (c:List D)=>AV.cap c 0) v2))) fun r13=>zi (resB 1 false 1 r13 0 0) fun b14=>ite' b14 (some ([(false,[.d (.int .i64 v4)])])) (F273.L2 k call n v0 v1 v2 v3 (IntKind.i64.wrap (v4+1)))) none) (some ([(false,[.d (.int .i64 (-1))])])):=by kernel_rfl
theorem F273.run (k:Nat) (a0:Ovi.Rows) (a1:FuncId) (a1c:Ovi.Rows):C (k+1) 273 [.d (.list 2 a0),.d (.fn a1 a1c)]=F273.L2 k (C k) k a0 a1 a1c (((List.length a0):Int)) 0:=(crun k 273 (by kernel_rfl) Tryz.func273 rfl).trans (by kernel_rfl)
noncomputable def F274.L6 (k:Nat) (call:zg) (n:Nat) (v0:Int) (v1 v2 v3 v4:Ovi.Rows) (v5:Bool) (v6 v7:Int) (v8:List (List D)) (v9:Ovi.Rows):Option Res:=zp P hs call 274 k Tryz.f274 [1,1,1,1,0,1,0] [] n [(2,.var 128 0),(3,.var 192 0),(5,AV.own 100005 0),(6,AV.own 100006 0),(7,.d (.int .i64 v0))] [(128,Blk.var [.d (.list 3 v1),.d (.list 2 v2)]),(192,Blk.var [.d (.list 2 v3),.d (.list 2 v4),.d (.bool v5),.d (.int .i64 v6),.d (.int .i64 v7)]),(100005,Blk.arr 39 1 0 v8 (0,0,0)),(100006,Blk.arr 39 1 0 v9 (0,0,0))]
theorem F274.L6.succ (k:Nat) (call:zg) (n:Nat) (v0:Int) (v1 v2 v3 v4:Ovi.Rows) (v5:Bool) (v6 v7:Int) (v8:List (List D)) (v9:Ovi.Rows):F274.L6 k call (n+1) v0 v1 v2 v3 v4 v5 v6 v7 v8 v9=ite' (decide (v0 < ((List.length v9):Int))) (ite' (inR v0 (List.length v9)) (zc (zr 1 v9 v0.toNat 0) fun l20=>za (call 117 [.agg [.d (.list 3 v1),.d (.list 2 v2)],.agg [.d (.list 2 v3),.d (.list 2 v4),.d (.bool v5),.d (.int .i64 v6),.d (.int .i64 v7)],.d (.list 1 l20)]) fun r21=>zi (resB 1 false 1 r21 0 0) fun b22=>ite' b22 (ite' (inR v0 (List.length v9)) (zc (zr 1 v9 v0.toNat 0) fun l23=>ite' (fits (v8.length+[[D.list 1 l23]].length)) (F274.L6 k call n (IntKind.i64.wrap (v0+1)) v1 v2 v3 v4 v5 v6 v7 (v8++[[D.list 1 l23]]) v9) none) none) (F274.L6 k call n (IntKind.i64.wrap (v0+1)) v1 v2 v3 v4 v5 v6 v7 v8 v9)) none) (some ([(false,[.row 39 1 v8])])):=by kernel_rfl
theorem F274.run (k:Nat) (a0_0 a0_1 a1_0 a1_1:Ovi.Rows) (a1_2:Bool) (a1_3 a1_4:Int):C (k+1) 274 [.agg [.d (.list 3 a0_0),.d (.list 2 a0_1)],.agg [.d (.list 2 a1_0),.d (.list 2 a1_1),.d (.bool a1_2),.d (.int .i64 a1_3),.d (.int .i64 a1_4)]]=za ((C k) 183 [.d (.list 3 a0_0),.agg [.d (.list 2 a1_0),.d (.list 2 a1_1),.d (.bool a1_2),.d (.int .i64 a1_3),.d (.int .i64 a1_4)]]) fun r9=>zi (resB 1 false 1 r9 0 0) fun b10=>ite' (!b10) (some ([(false,[.nil])])) (za ((C k) 105 [.agg [.d (.list 3 a0_0),.d (.list 2 a0_1)],.d (.list 2 a1_0)]) fun r11=>zc (resO 39 1 1 false 1 r11 0 0) fun l12=>F274.L6 k (C k) k 0 a0_0 a0_1 a1_0 a1_1 a1_2 a1_3 a1_4 [] l12):=(crun k 274 (by kernel_rfl) Tryz.func274 rfl).trans (by kernel_rfl)
noncomputable def F275.L5 (k:Nat) (call:zg) (n:Nat) (v0 v1:Int) (v2 v3 v4 v5:Ovi.Rows) (v6:Bool) (v7 v8:Int) (v9:List (List D)) (v10:Ovi.Rows):Option Res:=zp P hs call 275 k Tryz.f275 [1,1,1,0,1,0] [] n [(2,.var 128 0),(3,.var 192 0),(5,AV.own 100005 0),(18,AV.own 100018 0),(19,.d (.int .i64 v0)),(20,.d (.int .i64 v1))] [(128,Blk.var [.d (.list 3 v2),.d (.list 2 v3)]),(192,Blk.var [.d (.list 2 v4),.d (.list 2 v5),.d (.bool v6),.d (.int .i64 v7),.d (.int .i64 v8)]),(100005,Blk.arr 39 1 0 v9 (0,0,0)),(100018,Blk.arr 39 1 0 v10 (0,0,0))]
theorem F275.L5.succ (k:Nat) (call:zg) (n:Nat) (v0 v1:Int) (v2 v3 v4 v5:Ovi.Rows) (v6:Bool) (v7 v8:Int) (v9:List (List D)) (v10:Ovi.Rows):F275.L5 k call (n+1) v0 v1 v2 v3 v4 v5 v6 v7 v8 v9 v10=ite' (decide (v1 < v0)) (ite' (inR v1 (List.length v10)) (zc (zr 1 v10 v1.toNat 0) fun l21=>za (call 190 [.agg [.d (.list 3 v2),.d (.list 2 v3)],.agg [.d (.list 2 v4),.d (.list 2 v5),.d (.bool v6),.d (.int .i64 v7),.d (.int .i64 v8)],.d (.list 1 l21)]) fun r22=>zi (resB 1 false 1 r22 0 0) fun b23=>ite' b23 (ite' (fits (v9.length+[[D.list 1 l21]].length)) (F275.L5 k call n v0 (IntKind.i64.wrap (v1+1)) v2 v3 v4 v5 v6 v7 v8 (v9++[[D.list 1 l21]]) v10) none) (F275.L5 k call n v0 (IntKind.i64.wrap (v1+1)) v2 v3 v4 v5 v6 v7 v8 v9 v10)) none) (some ([(false,[.row 39 1 v9])])):=by kernel_rfl
theorem F275.run (k:Nat) (a0_0 a0_1 a1_0 a1_1:Ovi.Rows) (a1_2:Bool) (a1_3 a1_4:Int):C (k+1) 275 [.agg [.d (.list 3 a0_0),.d (.list 2 a0_1)],.agg [.d (.list 2 a1_0),.d (.list 2 a1_1),.d (.bool a1_2),.d (.int .i64 a1_3),.d (.int .i64 a1_4)]]=za ((C k) 189 [.d (.list 3 a0_0),.agg [.d (.list 2 a1_0),.d (.list 2 a1_1),.d (.bool a1_2),.d (.int .i64 a1_3),.d (.int .i64 a1_4)]]) fun r9=>zi (resB 1 false 1 r9 0 0) fun b10=>ite' (!b10) (some ([(false,[.nil])])) (za ((C k) 180 [.agg [.d (.list 3 a0_0),.d (.list 2 a0_1)],.d (.list 2 a1_0)]) fun r11=>zc (resO 39 1 1 false 1 r11 0 0) fun l12=>F275.L5 k (C k) k (((List.length l12):Int)) 0 a0_0 a0_1 a1_0 a1_1 a1_2 a1_3 a1_4 [] l12):=(crun k 275 (by kernel_rfl) Tryz.func275 rfl).trans (by kernel_rfl)
noncomputable def F291.L2 (k:Nat) (call:zg) (n:Nat) (v0:Ovi.Rows) (v1:FuncId) (v2:Ovi.Rows) (v3 v4:Int):Option Res:=zp P hs call 291 k Tryz.f291 [1,0,1,0] [] n [(0,.d (.list 1 v0)),(1,.d (.fn v1 v2)),(7,.d (.int .i64 v3)),(8,.d (.int .i64 v4))] []
theorem F291.L2.succ (k:Nat) (call:zg) (n:Nat) (v0:Ovi.Rows) (v1:FuncId) (v2:Ovi.Rows) (v3 v4:Int):F291.L2 k call (n+1) v0 v1 v2 v3 v4=ite' (decide (v4 < v3)) (ite' (inR v4 (List.length v0)) (zc (zr 1 v0 v4.toNat 0) fun l11=>za (call v1 (.d (.list 1 l11)::[].append (List.map (fun (c:List D)=>AV.cap c 0) v2))) fun r12=>zi (resB 1 false 1 r12 0 0) fun b13=>ite' b13 (some ([(false,[.d (.int .i64 v4)])])) (F291.L2 k call n v0 v1 v2 v3 (IntKind.i64.wrap (v4+1)))) none) (some ([(false,[.d (.int .i64 (-1))])])):=by kernel_rfl
theorem F291.run (k:Nat) (a0:Ovi.Rows) (a1:FuncId) (a1c:Ovi.Rows):C (k+1) 291 [.d (.list 1 a0),.d (.fn a1 a1c)]=F291.L2 k (C k) k a0 a1 a1c (((List.length a0):Int)) 0:=(crun k 291 (by kernel_rfl) Tryz.func291 rfl).trans (by kernel_rfl)
noncomputable def F2080.L5 (k:Nat) (call:zg) (n:Nat) (v0:Ovi.Rows) (v1:List (List D)) (v2 v3:Int) (v4 v5 v6:List (List D)) (v7 v8:Ovi.Rows) (v9:Int) (v10:List (List D)):Option Res:=zp P hs call 208 k Tryz.f208 [1,1,1,0,1,0] [] n [(1,.d (.list 5 v0)),(2,.d (.list 0 v1)),(6,.var 384 0),(8,.var 512 0),(9,.d (.int .i64 v2))] [(384,Blk.var [AV.own 200096 0,AV.own 200097 0,.d (.int .i64 v3),AV.own 200099 0]),(200096,Blk.arr 133 3 0 v4 (0,0,0)),(200097,Blk.arr 118 2 0 v5 (1,0,0)),(200099,Blk.arr 154 2 0 v6 (0,0,0)),(512,Blk.var [.d (.list 3 v7),.d (.list 2 v8),.d (.int .i64 v9),AV.own 200131 0]),(200131,Blk.arr 154 2 0 v10 (0,0,0))]
theorem F2080.L5.succ (k:Nat) (call:zg) (n:Nat) (v0:Ovi.Rows) (v1:List (List D)) (v2 v3:Int) (v4 v5 v6:List (List D)) (v7 v8:Ovi.Rows) (v9:Int) (v10:List (List D)):F2080.L5 k call (n+1) v0 v1 v2 v3 v4 v5 v6 v7 v8 v9 v10=ite' (decide (v2 < 60)) (za (call 249 [.agg [.d (.list 3 v7),.d (.list 2 v8)],.d (.list 5 v0)]) fun r17=>zc (resO 154 2 1 false 1 r17 0 0) fun l18=>ite' (((List.length l18):Int)==0) (some ([(true,[.d (.list 3 v7),.d (.list 2 v8),.d (.int .i64 1),.row 154 2 v10]),(false,[.d (.bool true)])])) (ite' (decide ((↑v1.length:Int) > 0)) (ite' ((↑v1.length:Int)==0) none none) (ite' (inR 0 (List.length l18)) (zf (zm .i64 l18 0 0) fun n19=>ite' (inR n19 (List.length v0)) (zc (zr 2 v0 n19.toNat 0) fun l20=>zc (zr 2 v0 n19.toNat 1) fun l21=>zi (zam v0 n19.toNat 2) fun b22=>zf (zm .i64 v0 n19.toNat 3) fun n23=>zf (zm .i64 v0 n19.toNat 4) fun n24=>ite' (inR 0 (List.length l18)) (zc (zr 1 l18 0 1) fun l25=>za (call 118 [.agg [.d (.list 3 v7),.d (.list 2 v8)],.agg [.d (.list 2 l20),.d (.list 2 l21),.d (.bool b22),.d (.int .i64 n23),.d (.int .i64 n24)],.d (.list 1 l25)]) fun r26=>zc (resL 3 2 true 2 r26 0 0) fun l27=>zc (resL 2 2 true 2 r26 0 1) fun l28=>zf (resI .i64 2 false 1 r26 1 0) fun n29=>ite' (inR 0 (List.length l18)) (zf (zm .i64 l18 0 0) fun n30=>zc (zr 1 l18 0 1) fun l31=>ite' (fits (v10.length+[[D.int .i64 n30,D.list 1 l31]].length)) (ite' (n29 != 1) (some ([(true,[.d (.list 3 l27),.d (.list 2 l28),.d (.int .i64 n29),.row 154 2 (v10++[[D.int .i64 n30,D.list 1 l31]])]),(false,[.d (.bool true)])])) (F2080.L5 k call n v0 v1 (IntKind.i64.wrap (v2+1)) v3 v4 v5 v6 l27 l28 v9 (v10++[[D.int .i64 n30,D.list 1 l31]]))) none) none) none) none) none))) (some ([(true,[.d (.list 3 v7),.d (.list 2 v8),.d (.int .i64 3),.row 154 2 v10]),(false,[.d (.bool true)])])):=by kernel_rfl
theorem F208.run (k:Nat) (a0_0 a0_1 a1:Ovi.Rows):C (k+1) 208 [.agg [.d (.list 3 a0_0),.d (.list 2 a0_1)],.d (.list 5 a1),.d (.list 0 [])]=za ((C k) 67 [.agg [.d (.list 3 a0_0),.d (.list 2 a0_1)]]) fun r5=>zi (resB 1 false 1 r5 0 0) fun b6=>ite' (!b6) (some ([(true,[.nil,.nil,.d (.int .i64 0),.nil]),(false,[.d (.bool false)])])) (za ((C k) 116 [.d (.list 3 a0_0),.d (.list 5 a1)]) fun r7=>zi (resB 1 false 1 r7 0 0) fun b8=>ite' (!b8) (some ([(true,[.nil,.nil,.d (.int .i64 0),.nil]),(false,[.d (.bool false)])])) (za ((C k) 92 [.agg [.d (.list 3 a0_0),.d (.list 2 a0_1)]]) fun r9=>zc (resO 133 3 1 true 2 r9 0 0) fun l10=>zc (resF 118 2 1 1 true 2 r9 0 1) fun l11=>F2080.L5 k (C k) k a1 [] 0 0 [] [] [] l10 l11 0 [])):=(crun k 208 (by kernel_rfl) Tryz.func208 rfl).trans (by kernel_rfl)
noncomputable def F2090.L5 (k:Nat) (call:zg) (n:Nat) (v0:Ovi.Rows) (v1:List (List D)) (v2 v3:Int) (v4 v5 v6:List (List D)) (v7:Int) (v8 v9:Ovi.Rows) (v10:List (List D)):Option Res:=zp P hs call 209 k Tryz.f209 [1,1,1,0,1,0] [] n [(1,.d (.list 5 v0)),(2,.d (.list 0 v1)),(6,.var 384 0),(8,.var 512 0),(9,.d (.int .i64 v2))] [(384,Blk.var [AV.own 200096 0,AV.own 200097 0,.d (.int .i64 v3),AV.own 200099 0]),(200096,Blk.arr 133 3 0 v4 (0,0,0)),(200097,Blk.arr 118 2 0 v5 (1,0,0)),(200099,Blk.arr 154 2 0 v6 (0,0,0)),(512,Blk.var [AV.own 200128 0,AV.own 200129 0,.d (.int .i64 v7),AV.own 200131 0]),(200128,Blk.arr 133 3 0 v8 (0,0,0)),(200129,Blk.arr 118 2 0 v9 (1,0,0)),(200131,Blk.arr 154 2 0 v10 (0,0,0))]
theorem F2090.L5.succ (k:Nat) (call:zg) (n:Nat) (v0:Ovi.Rows) (v1:List (List D)) (v2 v3:Int) (v4 v5 v6:List (List D)) (v7:Int) (v8 v9:Ovi.Rows) (v10:List (List D)):F2090.L5 k call (n+1) v0 v1 v2 v3 v4 v5 v6 v7 v8 v9 v10=ite' (v7==1) (ite' (v2==60) (some ([(true,[.row 133 3 v8,.row 118 2 v9,.d (.int .i64 3),.row 154 2 v10]),(false,[.d (.bool true)])])) (za (call 251 [.agg [.d (.list 3 v8),.d (.list 2 v9)],.d (.list 5 v0)]) fun r17=>zc (resO 154 2 1 false 1 r17 0 0) fun l18=>ite' (((List.length l18):Int)==0) (some ([(true,[.d (.list 3 v8),.d (.list 2 v9),.d (.int .i64 v7),.row 154 2 v10]),(false,[.d (.bool true)])])) (ite' (decide ((↑v1.length:Int) > 0)) (ite' ((↑v1.length:Int)==0) none none) (ite' (inR 0 (List.length l18)) (zf (zm .i64 l18 0 0) fun n19=>zc (zr 1 l18 0 1) fun l20=>ite' (inR n19 (List.length v0)) (zc (zr 2 v0 n19.toNat 0) fun l21=>zc (zr 2 v0 n19.toNat 1) fun l22=>zi (zam v0 n19.toNat 2) fun b23=>zf (zm .i64 v0 n19.toNat 3) fun n24=>zf (zm .i64 v0 n19.toNat 4) fun n25=>za (call 122 [.agg [.d (.list 3 v8),.d (.list 2 v9)],.agg [.d (.list 2 l21),.d (.list 2 l22),.d (.bool b23),.d (.int .i64 n24),.d (.int .i64 n25)],.d (.list 1 l20)]) fun r26=>zc (resO 133 3 2 true 2 r26 0 0) fun l27=>zc (resF 118 2 1 2 true 2 r26 0 1) fun l28=>zf (resI .i64 2 false 1 r26 1 0) fun n29=>ite' (fits (v10.length+[[D.int .i64 n19,D.list 1 l20]].length)) (F2090.L5 k call n v0 v1 (IntKind.i64.wrap (v2+1)) v3 v4 v5 v6 n29 l27 l28 (v10++[[D.int .i64 n19,D.list 1 l20]])) none) none) none)))) (some ([(true,[.row 133 3 v8,.row 118 2 v9,.d (.int .i64 v7),.row 154 2 v10]),(false,[.d (.bool true)])])):=by kernel_rfl
theorem F209.run (k:Nat) (a0_0 a0_1 a1:Ovi.Rows):C (k+1) 209 [.agg [.d (.list 3 a0_0),.d (.list 2 a0_1)],.d (.list 5 a1),.d (.list 0 [])]=za ((C k) 100 [.agg [.d (.list 3 a0_0),.d (.list 2 a0_1)]]) fun r5=>zi (resB 1 false 1 r5 0 0) fun b6=>ite' (!b6) (some ([(true,[.nil,.nil,.d (.int .i64 0),.nil]),(false,[.d (.bool false)])])) (za ((C k) 121 [.d (.list 3 a0_0),.d (.list 5 a1)]) fun r7=>zi (resB 1 false 1 r7 0 0) fun b8=>ite' (!b8) (some ([(true,[.nil,.nil,.d (.int .i64 0),.nil]),(false,[.d (.bool false)])])) (za ((C k) 98 [.agg [.d (.list 3 a0_0),.d (.list 2 a0_1)]]) fun r9=>zc (resO 133 3 1 true 2 r9 0 0) fun l10=>zc (resF 118 2 1 1 true 2 r9 0 1) fun l11=>F2090.L5 k (C k) k a1 [] 0 0 [] [] [] 1 l10 l11 [])):=(crun k 209 (by kernel_rfl) Tryz.func209 rfl).trans (by kernel_rfl)
end Go.Proofs.YthicohakeljdcaaGreat.Q
namespace Ovi
open Go
theorem zK (e sz d:Nat) (l:Rows):resF e sz d 1 false 1 [(false,[.frow e sz d l])] 0 0=some l:=by simp [resF,zX]
end Ovi
namespace Go.Proofs.YthicohakeljdcaaGreat.Q
open Go Ovi
theorem zd4 {k:Nat} {f:FuncId} {p:Args→Option Res} {args:Args} (h:prim f=some p):C (k+1) f args=p args:=by
 show za9 P hs prim (k+1) f args=p args
 unfold za9
 rw [h]
theorem l57 {k:Nat} (hk:2000000≤k) {a:Ovi.Rows} (ha:Fit (.list [.int .i64]) (.list 1 a)) (hs:szR a≤1048576):∀ (m i n:Nat) (v:Ovi.Rows),Filled a v i 1→i+m=a.length→m < n→F57.L3 k (C k) n a (i:Int) v=some [(false,[.row 3 1 a])]:=by
 have hlen:=ha.len
 intro m;induction m with
 | zero =>
  intro i n v hv hm hn
  obtain ⟨n,rfl⟩:∃ j,n=j+1:=⟨n - 1,by omega⟩
  obtain rfl:i=a.length:=by omega
  rw [F57.L3.succ,ite'_f (lt_f (by omega)),hv.done]
 | succ m ih =>
  intro i n v hv hm hn
  obtain ⟨n,rfl⟩:∃ j,n=j+1:=⟨n - 1,by omega⟩
  obtain ⟨row,hr,hfr,hdr⟩:=ha.row (i:=i) (by omega)
  obtain ⟨d0,rr0,rfl,hd0,hfr0⟩:=Fits.cons hfr
  obtain ⟨x0,rfl,wx0⟩:=hd0.int
  obtain rfl:=Fits.nil hfr0
  have hst:=hv.step hr rfl
  have hvl:=hv.1
  have hszr:=zby hr
  rw [F57.L3.succ,ite'_t (lt_t (by omega)),ite'_t (zn (by omega))]
  simp only [Int.toNat_natCast,zG hr,zaq hr,zat hr,zZ hr]
  simp only [List.getElem?_cons_zero,List.getElem?_cons_succ,Option.bind_some,zx,zQ,zR,zL,ze,zu,zE,zh,zj,zw,zI,zM,zt,zK,bne_self_eq_false,beq_self_eq_true,Bool.not_true]
  rw [ite'_t (zn (by omega)),zai (m:=a.length) (by omega) (by omega) hlen]
  rw [show ((i:Int)+1)=((i+1:Nat):Int) by omega]
  exact ih (i+1) n _ hst (by omega) (by omega)
theorem c57 {k:Nat} (hk:2000001≤k) {a:Ovi.Rows} (ha:Fit (.list [.int .i64]) (.list 1 a)) (hs:szD (.list 1 a)≤1048576):C k 57 [.d (.list 1 a)]=some [(false,[.row 3 1 a])]:=by
 obtain ⟨k,rfl⟩:∃ j,k=j+1:=⟨k - 1,by omega⟩
 simp only [szD] at hs
 rw [F57.run,ite'_t (zhp _),ite'_t (zhH (by omega))]
 exact l57 (k:=k) (by omega) ha (by omega) a.length 0 k _ (Filled.start a _) (by omega) (by omega)
theorem l60 {k:Nat} (hk:2000000≤k) {a:Ovi.Rows} (ha:Fit (.list [.int .i64]) (.list 1 a)) (hs:szR a≤1048576):∀ (m i n:Nat),i+m=a.length→m < n→F60.L4 k (C k) n a a (i:Int)=some [(false,[.d (.bool true)])]:=by
 have hlen:=ha.len
 intro m;induction m with
 | zero =>
  intro i n hm hn
  obtain ⟨n,rfl⟩:∃ j,n=j+1:=⟨n - 1,by omega⟩
  rw [F60.L4.succ,ite'_f (lt_f (by omega))]
 | succ m ih =>
  intro i n hm hn
  obtain ⟨n,rfl⟩:∃ j,n=j+1:=⟨n - 1,by omega⟩
  obtain ⟨row,hr,hfr,hdr⟩:=ha.row (i:=i) (by omega)
  obtain ⟨d0,rr0,rfl,hd0,hfr0⟩:=Fits.cons hfr
  obtain ⟨x0,rfl,wx0⟩:=hd0.int
  obtain rfl:=Fits.nil hfr0
  have hszr:=zby hr
  rw [F60.L4.succ,ite'_t (lt_t (by omega)),ite'_t (zn (by omega))]
  simp only [Int.toNat_natCast,zG hr,zaq hr,zat hr,zZ hr]
  simp only [List.getElem?_cons_zero,List.getElem?_cons_succ,Option.bind_some,zx,zQ,zR,zL,ze,zu,zE,zh,zj,zw,zI,zM,zt,zK,bne_self_eq_false,beq_self_eq_true,Bool.not_true]
  rw [ite'_t (zn (by omega))]
  rw [ite'_f rfl,zai (m:=a.length) (by omega) (by omega) hlen]
  rw [show ((i:Int)+1)=((i+1:Nat):Int) by omega]
  exact ih (i+1) n (by omega) (by omega)
theorem c60 {k:Nat} (hk:2000001≤k) {a:Ovi.Rows} (ha:Fit (.list [.int .i64]) (.list 1 a)) (hs:szD (.list 1 a)≤1048576):C k 60 [.d (.list 1 a),.d (.list 1 a)]=some [(false,[.d (.bool true)])]:=by
 obtain ⟨k,rfl⟩:∃ j,k=j+1:=⟨k - 1,by omega⟩
 simp only [szD] at hs
 rw [F60.run,ite'_f (zgb _)]
 exact l60 (k:=k) (by omega) ha (by omega) a.length 0 k (by omega) (by omega)
theorem c86 {k:Nat} (hk:2000001≤k) {a0:List UInt8} (ha0:a0.length≤maxLen) {a1:Int} {a2:Bool} {left:Int} (h0:0≤left) (h1:left≤1048576):C k 86 [.agg [.d (.str a0),.d (.int .i64 a1),.d (.bool a2)],.d (.int .i64 left)]=some [(false,[.d (.int .i64 (szT left (szC [.str a0,.int .i64 a1,.bool a2])))])]:=by
 obtain ⟨k,rfl⟩:∃ j,k=j+1:=⟨k - 1,by omega⟩
 have eT:szC [.str a0,.int .i64 a1,.bool a2]=((a0.length:Nat)):=by simp only [szC,szD]<;>omega
 rw [eT,F86.run]
 unfold maxLen at ha0
 rw [zad (n:=left - (a0.length:Int)) (by omega) (by omega)]
 rcases zW (left) ((a0.length:Nat)) with ⟨q0,e0⟩ | ⟨q0,e0⟩
 rotate_left
 ·rw [ite'_t (by simp only [decide_eq_true_eq];omega)]<;>first | rfl | rw [zah (by omega)]
 rw [ite'_f (zaC (by omega))]<;>first | rfl | (rw [zaA (by omega)]<;>(congr 6<;>omega))
theorem c87 {k:Nat} (hk:2000001≤k) {a:Ovi.Rows} (ha:Fit (.list [.int .i64]) (.list 1 a)) {left:Int} (h0:0≤left) (h1:left≤1048576):C k 87 [.d (.list 1 a),.d (.int .i64 left)]=some [(false,[.d (.int .i64 (szT left (szD (.list 1 a))))])]:=by
 obtain ⟨k,rfl⟩:∃ j,k=j+1:=⟨k - 1,by omega⟩
 have hlen:=ha.len;unfold maxLen at hlen
 have hz:szR a=0:=by
  clear hlen h0 h1
  induction a with
  | nil=>rfl
  | cons r rs ih =>
   simp only [Fit,List.length_cons,List.mem_cons,forall_eq_or_imp] at ha
   obtain ⟨q1,q2,hfr,q4⟩:=ha
   obtain ⟨d0,rr0,rfl,hd0,hfr0⟩:=Fits.cons hfr
   obtain ⟨x0,rfl,wx0⟩:=hd0.int
   obtain rfl:=Fits.nil hfr0
   simp only [szR,szC,szD]
   rw [ih (by simp only [Fit];exact ⟨q1,by omega,q4⟩)]
 rw [F87.run,zad (by omega) (by omega)]
 simp only [szD,hz,Nat.add_zero]
 rcases zW left a.length with ⟨q,e⟩ | ⟨q,e⟩<;>rw [e]
 ·rw [ite'_f (zaC (by omega))]
 ·rw [ite'_t (by simp only [decide_eq_true_eq];omega)]
theorem zpx {a0:List UInt8} {a1:Int} {a2:Bool}:resS 1 true 3 [(true,[.d (.str a0),.d (.int .i64 a1),.d (.bool a2)])] 0 0=some a0:=rfl
theorem zpy {a0:List UInt8} {a1:Int} {a2:Bool}:resI .i64 1 true 3 [(true,[.d (.str a0),.d (.int .i64 a1),.d (.bool a2)])] 0 1=some a1:=rfl
theorem zpz {a0:List UInt8} {a1:Int} {a2:Bool}:resB 1 true 3 [(true,[.d (.str a0),.d (.int .i64 a1),.d (.bool a2)])] 0 2=some a2:=rfl
theorem c93 {k:Nat} (hk:2000001≤k) {a0:List UInt8} (ha0:a0.length≤maxLen) {a1:Int} {a2:Bool}  : C k 93 [.agg [.d (.str a0),.d (.int .i64 a1),.d (.bool a2)]]=some [(true,[.d (.str a0),.d (.int .i64 a1),.d (.bool a2)])]:=by
 obtain ⟨k,rfl⟩:∃ j,k=j+1:=⟨k - 1,by omega⟩
 rw [F93.run]
theorem c101 {k:Nat} (hk:2000001≤k) {a0:List UInt8} (ha0:a0.length≤maxLen) {a1:Int} {a2:Bool}  : C k 101 [.agg [.d (.str a0),.d (.int .i64 a1),.d (.bool a2)],.agg [.d (.str a0),.d (.int .i64 a1),.d (.bool a2)]]=some [(false,[.d (.bool true)])]:=by
 obtain ⟨k,rfl⟩:∃ j,k=j+1:=⟨k - 1,by omega⟩
 rw [F101.run]
 simp only [List.getElem?_cons_zero,List.getElem?_cons_succ,Option.bind_some,zx,zQ,zR,zL,ze,zu,zE,zh,zj,zw,zI,zM,zt,zK,bne_self_eq_false,beq_self_eq_true,Bool.not_true]
 rfl
theorem l21 {k:Nat} (hk:2000001≤k) {a:Ovi.Rows} (ha:Fit (.list [.str,.int .i64,.bool]) (.list 3 a)):∀ (m i n:Nat) (left:Int),0≤left→left≤1048576→i+m=a.length→m < n→F21.L5 k (C k) n a left (i:Int)=some [(false,[.d (.int .i64 (szT left (szR (a.drop i))))])]:=by
 have hlen:=ha.len
 intro m;induction m with
 | zero =>
  intro i n left h0 h1 hm hn
  obtain ⟨n,rfl⟩:∃ j,n=j+1:=⟨n - 1,by omega⟩
  rw [F21.L5.succ,ite'_f (lt_f (by omega)),List.drop_eq_nil_of_le (by omega)]
  simp only [szR,zaA (left:=left) (s:=0) (by omega)]
  simp
 | succ m ih =>
  intro i n left h0 h1 hm hn
  obtain ⟨n,rfl⟩:∃ j,n=j+1:=⟨n - 1,by omega⟩
  obtain ⟨row,hr,hfr,hdr⟩:=ha.row (i:=i) (by omega)
  obtain ⟨d0,rr0,rfl,hd0,hfr0⟩:=Fits.cons hfr
  obtain ⟨x0,rfl,hx0⟩:=hd0.str
  obtain ⟨d1,rr1,rfl,hd1,hfr1⟩:=Fits.cons hfr0
  obtain ⟨x1,rfl,wx1⟩:=hd1.int
  obtain ⟨d2,rr2,rfl,hd2,hfr2⟩:=Fits.cons hfr1
  obtain ⟨x2,rfl⟩:=hd2.bool
  obtain rfl:=Fits.nil hfr2
  have eR:szR (a.drop i)=szC [.str x0,.int .i64 x1,.bool x2]+szR (a.drop (i+1)):=by rw [hdr];rfl
  rw [F21.L5.succ,ite'_t (lt_t (by omega)),ite'_t (zn (by omega)),eR]
  simp only [Int.toNat_natCast,zG hr,zaq hr,zat hr,zZ hr]
  simp only [List.getElem?_cons_zero,List.getElem?_cons_succ,Option.bind_some,zx,zQ,zR,zL,ze,zu,zE,zh,zj,zw,zI,zM,zt,zK,bne_self_eq_false,beq_self_eq_true,Bool.not_true]
  have cc:=c86 (k:=k) (by omega) (a1:=x1) (a2:=x2) hx0 h0 h1
  rw [cc]
  simp only [List.getElem?_cons_zero,List.getElem?_cons_succ,Option.bind_some,zx,zQ,zR,zL,ze,zu,zE,zh,zj,zw,zI,zM,zt,zK,bne_self_eq_false,beq_self_eq_true,Bool.not_true]
  rcases zW left (szC [.str x0,.int .i64 x1,.bool x2]) with ⟨q,e⟩ | ⟨q,e⟩<;>rw [e]
  ·rw [ite'_f (zaC (by omega)),zai (m:=a.length) (by omega) (by omega) hlen]
   have:=ih (i+1) n (left - ((szC [.str x0,.int .i64 x1,.bool x2]:Nat):Int)) (by omega) (by omega) (by omega) (by omega)
   rw [show ((i:Int)+1)=((i+1:Nat):Int) by omega,this]
   rcases zW (left - ((szC [.str x0,.int .i64 x1,.bool x2]:Nat):Int)) (szR (a.drop (i+1))) with ⟨q2,e2⟩ | ⟨q2,e2⟩<;>rw [e2]
   ·rw [zaA (by omega)]<;>(congr 6<;>omega)
   ·rw [zah (by omega)]
  ·rw [ite'_t zeU,zah (by omega)]
theorem c21 {k:Nat} (hk:2000002≤k) {a:Ovi.Rows} (ha:Fit (.list [.str,.int .i64,.bool]) (.list 3 a)) {left:Int} (h0:0≤left) (h1:left≤1048576):C k 21 [.d (.list 3 a),.d (.int .i64 left)]=some [(false,[.d (.int .i64 (szT left (szD (.list 3 a))))])]:=by
 obtain ⟨k,rfl⟩:∃ j,k=j+1:=⟨k - 1,by omega⟩
 have hlen:=ha.len;unfold maxLen at hlen
 rw [F21.run,zad (by omega) (by omega)]
 have eD:szD (.list 3 a)=a.length+szR a:=by simp only [szD]
 rw [eD]
 rcases zW left a.length with ⟨q,e⟩ | ⟨q,e⟩
 ·rw [ite'_f (zaC (by omega))]
  have:=l21 (k:=k) (by omega) ha a.length 0 k (left - (a.length:Int)) (by omega) (by omega) (by omega) (by omega)
  rw [List.drop_zero] at this
  rw [show ((0:Int))=((0:Nat):Int) by rfl,this]
  rcases zW (left - (a.length:Int)) (szR a) with ⟨q2,e2⟩ | ⟨q2,e2⟩<;>rw [e2]
  ·rw [zaA (by omega)]<;>(congr 6<;>omega)
  ·rw [zah (by omega)]
 ·rw [ite'_t (by simp only [decide_eq_true_eq];omega),zah (by omega)]
theorem l24 {k:Nat} (hk:2000001≤k) {a:Ovi.Rows} (ha:Fit (.list [.str,.int .i64,.bool]) (.list 3 a)) (hs:szR a≤1048576):∀ (m i n:Nat) (v:Ovi.Rows),Filled a v i 3→i+m=a.length→m < n→F24.L3 k (C k) n a (i:Int) v=some [(false,[.row 133 3 a])]:=by
 have hlen:=ha.len
 intro m;induction m with
 | zero =>
  intro i n v hv hm hn
  obtain ⟨n,rfl⟩:∃ j,n=j+1:=⟨n - 1,by omega⟩
  obtain rfl:i=a.length:=by omega
  rw [F24.L3.succ,ite'_f (lt_f (by omega)),hv.done]
 | succ m ih =>
  intro i n v hv hm hn
  obtain ⟨n,rfl⟩:∃ j,n=j+1:=⟨n - 1,by omega⟩
  obtain ⟨row,hr,hfr,hdr⟩:=ha.row (i:=i) (by omega)
  obtain ⟨d0,rr0,rfl,hd0,hfr0⟩:=Fits.cons hfr
  obtain ⟨x0,rfl,hx0⟩:=hd0.str
  obtain ⟨d1,rr1,rfl,hd1,hfr1⟩:=Fits.cons hfr0
  obtain ⟨x1,rfl,wx1⟩:=hd1.int
  obtain ⟨d2,rr2,rfl,hd2,hfr2⟩:=Fits.cons hfr1
  obtain ⟨x2,rfl⟩:=hd2.bool
  obtain rfl:=Fits.nil hfr2
  have hst:=hv.step hr rfl
  have hvl:=hv.1
  have hszr:=zby hr
  rw [F24.L3.succ,ite'_t (lt_t (by omega)),ite'_t (zn (by omega))]
  simp only [Int.toNat_natCast,zG hr,zaq hr,zat hr,zZ hr]
  simp only [List.getElem?_cons_zero,List.getElem?_cons_succ,Option.bind_some,zx,zQ,zR,zL,ze,zu,zE,zh,zj,zw,zI,zM,zt,zK,bne_self_eq_false,beq_self_eq_true,Bool.not_true]
  rw [c93 (k:=k) (by omega) (a1:=x1) (a2:=x2) hx0 ]
  simp only [List.getElem?_cons_zero,List.getElem?_cons_succ,Option.bind_some,zx,zQ,zR,zL,ze,zu,zE,zh,zj,zw,zI,zM,zt,zK,bne_self_eq_false,beq_self_eq_true,Bool.not_true]
  simp only [zpx,zpy,zpz]
  simp only [List.getElem?_cons_zero,List.getElem?_cons_succ,Option.bind_some,zx,zQ,zR,zL,ze,zu,zE,zh,zj,zw,zI,zM,zt,zK,bne_self_eq_false,beq_self_eq_true,Bool.not_true]
  rw [ite'_t (zn (by omega)),zai (m:=a.length) (by omega) (by omega) hlen]
  rw [show ((i:Int)+1)=((i+1:Nat):Int) by omega]
  exact ih (i+1) n _ hst (by omega) (by omega)
theorem c24 {k:Nat} (hk:2000002≤k) {a:Ovi.Rows} (ha:Fit (.list [.str,.int .i64,.bool]) (.list 3 a)) (hs:szD (.list 3 a)≤1048576):C k 24 [.d (.list 3 a)]=some [(false,[.row 133 3 a])]:=by
 obtain ⟨k,rfl⟩:∃ j,k=j+1:=⟨k - 1,by omega⟩
 simp only [szD] at hs
 rw [F24.run,ite'_t (zhp _),ite'_t (zhH (by omega))]
 exact l24 (k:=k) (by omega) ha (by omega) a.length 0 k _ (Filled.start a _) (by omega) (by omega)
theorem l27 {k:Nat} (hk:2000001≤k) {a:Ovi.Rows} (ha:Fit (.list [.str,.int .i64,.bool]) (.list 3 a)) (hs:szR a≤1048576):∀ (m i n:Nat),i+m=a.length→m < n→F27.L4 k (C k) n a a (i:Int)=some [(false,[.d (.bool true)])]:=by
 have hlen:=ha.len
 intro m;induction m with
 | zero =>
  intro i n hm hn
  obtain ⟨n,rfl⟩:∃ j,n=j+1:=⟨n - 1,by omega⟩
  rw [F27.L4.succ,ite'_f (lt_f (by omega))]
 | succ m ih =>
  intro i n hm hn
  obtain ⟨n,rfl⟩:∃ j,n=j+1:=⟨n - 1,by omega⟩
  obtain ⟨row,hr,hfr,hdr⟩:=ha.row (i:=i) (by omega)
  obtain ⟨d0,rr0,rfl,hd0,hfr0⟩:=Fits.cons hfr
  obtain ⟨x0,rfl,hx0⟩:=hd0.str
  obtain ⟨d1,rr1,rfl,hd1,hfr1⟩:=Fits.cons hfr0
  obtain ⟨x1,rfl,wx1⟩:=hd1.int
  obtain ⟨d2,rr2,rfl,hd2,hfr2⟩:=Fits.cons hfr1
  obtain ⟨x2,rfl⟩:=hd2.bool
  obtain rfl:=Fits.nil hfr2
  have hszr:=zby hr
  rw [F27.L4.succ,ite'_t (lt_t (by omega)),ite'_t (zn (by omega))]
  simp only [Int.toNat_natCast,zG hr,zaq hr,zat hr,zZ hr]
  simp only [List.getElem?_cons_zero,List.getElem?_cons_succ,Option.bind_some,zx,zQ,zR,zL,ze,zu,zE,zh,zj,zw,zI,zM,zt,zK,bne_self_eq_false,beq_self_eq_true,Bool.not_true]
  rw [ite'_t (zn (by omega))]
  rw [c101 (k:=k) (by omega) (a1:=x1) (a2:=x2) hx0 ]
  simp only [List.getElem?_cons_zero,List.getElem?_cons_succ,Option.bind_some,zx,zQ,zR,zL,ze,zu,zE,zh,zj,zw,zI,zM,zt,zK,bne_self_eq_false,beq_self_eq_true,Bool.not_true]
  rw [ite'_f rfl,zai (m:=a.length) (by omega) (by omega) hlen]
  rw [show ((i:Int)+1)=((i+1:Nat):Int) by omega]
  exact ih (i+1) n (by omega) (by omega)
theorem c27 {k:Nat} (hk:2000002≤k) {a:Ovi.Rows} (ha:Fit (.list [.str,.int .i64,.bool]) (.list 3 a)) (hs:szD (.list 3 a)≤1048576):C k 27 [.d (.list 3 a),.d (.list 3 a)]=some [(false,[.d (.bool true)])]:=by
 obtain ⟨k,rfl⟩:∃ j,k=j+1:=⟨k - 1,by omega⟩
 simp only [szD] at hs
 rw [F27.run,ite'_f (zgb _)]
 exact l27 (k:=k) (by omega) ha (by omega) a.length 0 k (by omega) (by omega)
theorem zoF {a0:Int} {a1:Ovi.Rows}:resI .i64 1 true 2 [(true,[.d (.int .i64 a0),.row 3 1 a1])] 0 0=some a0:=rfl
theorem zoG {a0:Int} {a1:Ovi.Rows}:resO 3 1 1 true 2 [(true,[.d (.int .i64 a0),.row 3 1 a1])] 0 1=some a1:=rfl
theorem c120 {k:Nat} (hk:2000002≤k) {a0:Int} {a1:Ovi.Rows} (ha1:Fit (.list [.int .i64]) (.list 1 a1)) (s1:szD (.list 1 a1)≤1048576):C k 120 [.agg [.d (.int .i64 a0),.d (.list 1 a1)]]=some [(true,[.d (.int .i64 a0),.row 3 1 a1])]:=by
 obtain ⟨k,rfl⟩:∃ j,k=j+1:=⟨k - 1,by omega⟩
 rw [F120.run]
 rw [c57 (k:=k) (by omega)  ha1 s1]
 simp only [List.getElem?_cons_zero,List.getElem?_cons_succ,Option.bind_some,zx,zQ,zR,zL,ze,zu,zE,zh,zj,zw,zI,zM,zt,zK,bne_self_eq_false,beq_self_eq_true,Bool.not_true]
theorem c142 {k:Nat} (hk:2000002≤k) {a0:Int} {a1:Ovi.Rows} (ha1:Fit (.list [.int .i64]) (.list 1 a1)) {left:Int} (h0:0≤left) (h1:left≤1048576):C k 142 [.agg [.d (.int .i64 a0),.d (.list 1 a1)],.d (.int .i64 left)]=some [(false,[.d (.int .i64 (szT left (szC [.int .i64 a0,.list 1 a1])))])]:=by
 obtain ⟨k,rfl⟩:∃ j,k=j+1:=⟨k - 1,by omega⟩
 have eT:szC [.int .i64 a0,.list 1 a1]=(szD (.list 1 a1)):=by simp only [szC,szD]<;>omega
 rw [eT,F142.run]
 rw [c87 (k:=k) (by omega)  ha1 (left:=left) (by omega) (by omega)]
 simp only [List.getElem?_cons_zero,List.getElem?_cons_succ,Option.bind_some,zx,zQ,zR,zL,ze,zu,zE,zh,zj,zw,zI,zM,zt,zK,bne_self_eq_false,beq_self_eq_true,Bool.not_true]
 rcases zW (left) (szD (.list 1 a1)) with ⟨q0,e0⟩ | ⟨q0,e0⟩<;>rw [e0]
 rotate_left
 ·rw [ite'_t (by simp only [decide_eq_true_eq];omega)]<;>first | rfl | rw [zah (by omega)]
 rw [ite'_f (zaC (by omega))]<;>first | rfl | (rw [zaA (by omega)]<;>(congr 6<;>omega))
theorem zoH {a0:Int} {a1:Ovi.Rows}:resI .i64 1 true 2 [(true,[.d (.int .i64 a0),.row 3 1 a1])] 0 0=some a0:=rfl
theorem zoI {a0:Int} {a1:Ovi.Rows}:resO 3 1 1 true 2 [(true,[.d (.int .i64 a0),.row 3 1 a1])] 0 1=some a1:=rfl
theorem c150 {k:Nat} (hk:2000002≤k) {a0:Int} {a1:Ovi.Rows} (ha1:Fit (.list [.int .i64]) (.list 1 a1)) (s1:szD (.list 1 a1)≤1048576):C k 150 [.agg [.d (.int .i64 a0),.d (.list 1 a1)]]=some [(true,[.d (.int .i64 a0),.row 3 1 a1])]:=by
 obtain ⟨k,rfl⟩:∃ j,k=j+1:=⟨k - 1,by omega⟩
 rw [F150.run]
 rw [c57 (k:=k) (by omega)  ha1 s1]
 simp only [List.getElem?_cons_zero,List.getElem?_cons_succ,Option.bind_some,zx,zQ,zR,zL,ze,zu,zE,zh,zj,zw,zI,zM,zt,zK,bne_self_eq_false,beq_self_eq_true,Bool.not_true]
theorem c153 {k:Nat} (hk:2000002≤k) {a0:Int} {a1:Ovi.Rows} (ha1:Fit (.list [.int .i64]) (.list 1 a1)) (s1:szD (.list 1 a1)≤1048576):C k 153 [.agg [.d (.int .i64 a0),.d (.list 1 a1)],.agg [.d (.int .i64 a0),.d (.list 1 a1)]]=some [(false,[.d (.bool true)])]:=by
 obtain ⟨k,rfl⟩:∃ j,k=j+1:=⟨k - 1,by omega⟩
 rw [F153.run]
 rw [c60 (k:=k) (by omega)  ha1 s1]
 simp only [List.getElem?_cons_zero,List.getElem?_cons_succ,Option.bind_some,zx,zQ,zR,zL,ze,zu,zE,zh,zj,zw,zI,zM,zt,zK,bne_self_eq_false,beq_self_eq_true,Bool.not_true]
 rfl
theorem c154 {k:Nat} (hk:2000002≤k) {a0:Int} {a1:Ovi.Rows} (ha1:Fit (.list [.int .i64]) (.list 1 a1)) {left:Int} (h0:0≤left) (h1:left≤1048576):C k 154 [.agg [.d (.int .i64 a0),.d (.list 1 a1)],.d (.int .i64 left)]=some [(false,[.d (.int .i64 (szT left (szC [.int .i64 a0,.list 1 a1])))])]:=by
 obtain ⟨k,rfl⟩:∃ j,k=j+1:=⟨k - 1,by omega⟩
 have eT:szC [.int .i64 a0,.list 1 a1]=(szD (.list 1 a1)):=by simp only [szC,szD]<;>omega
 rw [eT,F154.run]
 rw [c87 (k:=k) (by omega)  ha1 (left:=left) (by omega) (by omega)]
 simp only [List.getElem?_cons_zero,List.getElem?_cons_succ,Option.bind_some,zx,zQ,zR,zL,ze,zu,zE,zh,zj,zw,zI,zM,zt,zK,bne_self_eq_false,beq_self_eq_true,Bool.not_true]
 rcases zW (left) (szD (.list 1 a1)) with ⟨q0,e0⟩ | ⟨q0,e0⟩<;>rw [e0]
 rotate_left
 ·rw [ite'_t (by simp only [decide_eq_true_eq];omega)]<;>first | rfl | rw [zah (by omega)]
 rw [ite'_f (zaC (by omega))]<;>first | rfl | (rw [zaA (by omega)]<;>(congr 6<;>omega))
theorem zoJ {a0:Int} {a1:Ovi.Rows}:resI .i64 1 true 2 [(true,[.d (.int .i64 a0),.row 3 1 a1])] 0 0=some a0:=rfl
theorem zoK {a0:Int} {a1:Ovi.Rows}:resO 3 1 1 true 2 [(true,[.d (.int .i64 a0),.row 3 1 a1])] 0 1=some a1:=rfl
theorem c160 {k:Nat} (hk:2000002≤k) {a0:Int} {a1:Ovi.Rows} (ha1:Fit (.list [.int .i64]) (.list 1 a1)) (s1:szD (.list 1 a1)≤1048576):C k 160 [.agg [.d (.int .i64 a0),.d (.list 1 a1)]]=some [(true,[.d (.int .i64 a0),.row 3 1 a1])]:=by
 obtain ⟨k,rfl⟩:∃ j,k=j+1:=⟨k - 1,by omega⟩
 rw [F160.run]
 rw [c57 (k:=k) (by omega)  ha1 s1]
 simp only [List.getElem?_cons_zero,List.getElem?_cons_succ,Option.bind_some,zx,zQ,zR,zL,ze,zu,zE,zh,zj,zw,zI,zM,zt,zK,bne_self_eq_false,beq_self_eq_true,Bool.not_true]
theorem c175 {k:Nat} (hk:2000002≤k) {a0:Int} {a1:Ovi.Rows} (ha1:Fit (.list [.int .i64]) (.list 1 a1)) (s1:szD (.list 1 a1)≤1048576):C k 175 [.agg [.d (.int .i64 a0),.d (.list 1 a1)],.agg [.d (.int .i64 a0),.d (.list 1 a1)]]=some [(false,[.d (.bool true)])]:=by
 obtain ⟨k,rfl⟩:∃ j,k=j+1:=⟨k - 1,by omega⟩
 rw [F175.run]
 rw [c60 (k:=k) (by omega)  ha1 s1]
 simp only [List.getElem?_cons_zero,List.getElem?_cons_succ,Option.bind_some,zx,zQ,zR,zL,ze,zu,zE,zh,zj,zw,zI,zM,zt,zK,bne_self_eq_false,beq_self_eq_true,Bool.not_true]
 rfl
theorem l48 {k:Nat} (hk:2000002≤k) {a:Ovi.Rows} (ha:Fit (.list [.int .i64,.list [.int .i64]]) (.list 2 a)) (hs:szR a≤1048576):∀ (m i n:Nat) (v:Ovi.Rows),Filled a v i 2→i+m=a.length→m < n→F48.L3 k (C k) n a (i:Int) v=some [(false,[.frow 154 2 1 a])]:=by
 have hlen:=ha.len
 intro m;induction m with
 | zero =>
  intro i n v hv hm hn
  obtain ⟨n,rfl⟩:∃ j,n=j+1:=⟨n - 1,by omega⟩
  obtain rfl:i=a.length:=by omega
  rw [F48.L3.succ,ite'_f (lt_f (by omega)),hv.done]
 | succ m ih =>
  intro i n v hv hm hn
  obtain ⟨n,rfl⟩:∃ j,n=j+1:=⟨n - 1,by omega⟩
  obtain ⟨row,hr,hfr,hdr⟩:=ha.row (i:=i) (by omega)
  obtain ⟨d0,rr0,rfl,hd0,hfr0⟩:=Fits.cons hfr
  obtain ⟨x0,rfl,wx0⟩:=hd0.int
  obtain ⟨d1,rr1,rfl,hd1,hfr1⟩:=Fits.cons hfr0
  obtain ⟨x1,rfl,hx1⟩:=hd1.list (n:=1) rfl
  obtain rfl:=Fits.nil hfr1
  have hst:=hv.step hr rfl
  have hvl:=hv.1
  have hszr:=zby hr
  rw [F48.L3.succ,ite'_t (lt_t (by omega)),ite'_t (zn (by omega))]
  simp only [Int.toNat_natCast,zG hr,zaq hr,zat hr,zZ hr]
  simp only [List.getElem?_cons_zero,List.getElem?_cons_succ,Option.bind_some,zx,zQ,zR,zL,ze,zu,zE,zh,zj,zw,zI,zM,zt,zK,bne_self_eq_false,beq_self_eq_true,Bool.not_true]
  rw [c120 (k:=k) (by omega) (a0:=x0) hx1 (by simp only [szC,szD] at hszr ⊢;omega)]
  simp only [List.getElem?_cons_zero,List.getElem?_cons_succ,Option.bind_some,zx,zQ,zR,zL,ze,zu,zE,zh,zj,zw,zI,zM,zt,zK,bne_self_eq_false,beq_self_eq_true,Bool.not_true]
  simp only [zoF,zoG]
  simp only [List.getElem?_cons_zero,List.getElem?_cons_succ,Option.bind_some,zx,zQ,zR,zL,ze,zu,zE,zh,zj,zw,zI,zM,zt,zK,bne_self_eq_false,beq_self_eq_true,Bool.not_true]
  rw [ite'_t (zn (by omega)),zai (m:=a.length) (by omega) (by omega) hlen]
  rw [show ((i:Int)+1)=((i+1:Nat):Int) by omega]
  exact ih (i+1) n _ hst (by omega) (by omega)
theorem l66 {k:Nat} (hk:2000002≤k) {a:Ovi.Rows} (ha:Fit (.list [.int .i64,.list [.int .i64]]) (.list 2 a)):∀ (m i n:Nat) (left:Int),0≤left→left≤1048576→i+m=a.length→m < n→F66.L5 k (C k) n a left (i:Int)=some [(false,[.d (.int .i64 (szT left (szR (a.drop i))))])]:=by
 have hlen:=ha.len
 intro m;induction m with
 | zero =>
  intro i n left h0 h1 hm hn
  obtain ⟨n,rfl⟩:∃ j,n=j+1:=⟨n - 1,by omega⟩
  rw [F66.L5.succ,ite'_f (lt_f (by omega)),List.drop_eq_nil_of_le (by omega)]
  simp only [szR,zaA (left:=left) (s:=0) (by omega)]
  simp
 | succ m ih =>
  intro i n left h0 h1 hm hn
  obtain ⟨n,rfl⟩:∃ j,n=j+1:=⟨n - 1,by omega⟩
  obtain ⟨row,hr,hfr,hdr⟩:=ha.row (i:=i) (by omega)
  obtain ⟨d0,rr0,rfl,hd0,hfr0⟩:=Fits.cons hfr
  obtain ⟨x0,rfl,wx0⟩:=hd0.int
  obtain ⟨d1,rr1,rfl,hd1,hfr1⟩:=Fits.cons hfr0
  obtain ⟨x1,rfl,hx1⟩:=hd1.list (n:=1) rfl
  obtain rfl:=Fits.nil hfr1
  have eR:szR (a.drop i)=szC [.int .i64 x0,.list 1 x1]+szR (a.drop (i+1)):=by rw [hdr];rfl
  rw [F66.L5.succ,ite'_t (lt_t (by omega)),ite'_t (zn (by omega)),eR]
  simp only [Int.toNat_natCast,zG hr,zaq hr,zat hr,zZ hr]
  simp only [List.getElem?_cons_zero,List.getElem?_cons_succ,Option.bind_some,zx,zQ,zR,zL,ze,zu,zE,zh,zj,zw,zI,zM,zt,zK,bne_self_eq_false,beq_self_eq_true,Bool.not_true]
  have cc:=c142 (k:=k) (by omega) (a0:=x0) hx1 h0 h1
  rw [cc]
  simp only [List.getElem?_cons_zero,List.getElem?_cons_succ,Option.bind_some,zx,zQ,zR,zL,ze,zu,zE,zh,zj,zw,zI,zM,zt,zK,bne_self_eq_false,beq_self_eq_true,Bool.not_true]
  rcases zW left (szC [.int .i64 x0,.list 1 x1]) with ⟨q,e⟩ | ⟨q,e⟩<;>rw [e]
  ·rw [ite'_f (zaC (by omega)),zai (m:=a.length) (by omega) (by omega) hlen]
   have:=ih (i+1) n (left - ((szC [.int .i64 x0,.list 1 x1]:Nat):Int)) (by omega) (by omega) (by omega) (by omega)
   rw [show ((i:Int)+1)=((i+1:Nat):Int) by omega,this]
   rcases zW (left - ((szC [.int .i64 x0,.list 1 x1]:Nat):Int)) (szR (a.drop (i+1))) with ⟨q2,e2⟩ | ⟨q2,e2⟩<;>rw [e2]
   ·rw [zaA (by omega)]<;>(congr 6<;>omega)
   ·rw [zah (by omega)]
  ·rw [ite'_t zeU,zah (by omega)]
theorem c66 {k:Nat} (hk:2000003≤k) {a:Ovi.Rows} (ha:Fit (.list [.int .i64,.list [.int .i64]]) (.list 2 a)) {left:Int} (h0:0≤left) (h1:left≤1048576):C k 66 [.d (.list 2 a),.d (.int .i64 left)]=some [(false,[.d (.int .i64 (szT left (szD (.list 2 a))))])]:=by
 obtain ⟨k,rfl⟩:∃ j,k=j+1:=⟨k - 1,by omega⟩
 have hlen:=ha.len;unfold maxLen at hlen
 rw [F66.run,zad (by omega) (by omega)]
 have eD:szD (.list 2 a)=a.length+szR a:=by simp only [szD]
 rw [eD]
 rcases zW left a.length with ⟨q,e⟩ | ⟨q,e⟩
 ·rw [ite'_f (zaC (by omega))]
  have:=l66 (k:=k) (by omega) ha a.length 0 k (left - (a.length:Int)) (by omega) (by omega) (by omega) (by omega)
  rw [List.drop_zero] at this
  rw [show ((0:Int))=((0:Nat):Int) by rfl,this]
  rcases zW (left - (a.length:Int)) (szR a) with ⟨q2,e2⟩ | ⟨q2,e2⟩<;>rw [e2]
  ·rw [zaA (by omega)]<;>(congr 6<;>omega)
  ·rw [zah (by omega)]
 ·rw [ite'_t (by simp only [decide_eq_true_eq];omega),zah (by omega)]
theorem l72 {k:Nat} (hk:2000002≤k) {a:Ovi.Rows} (ha:Fit (.list [.int .i64,.list [.int .i64]]) (.list 2 a)) (hs:szR a≤1048576):∀ (m i n:Nat) (v:Ovi.Rows),Filled a v i 2→i+m=a.length→m < n→F72.L3 k (C k) n a (i:Int) v=some [(false,[.frow 118 2 1 a])]:=by
 have hlen:=ha.len
 intro m;induction m with
 | zero =>
  intro i n v hv hm hn
  obtain ⟨n,rfl⟩:∃ j,n=j+1:=⟨n - 1,by omega⟩
  obtain rfl:i=a.length:=by omega
  rw [F72.L3.succ,ite'_f (lt_f (by omega)),hv.done]
 | succ m ih =>
  intro i n v hv hm hn
  obtain ⟨n,rfl⟩:∃ j,n=j+1:=⟨n - 1,by omega⟩
  obtain ⟨row,hr,hfr,hdr⟩:=ha.row (i:=i) (by omega)
  obtain ⟨d0,rr0,rfl,hd0,hfr0⟩:=Fits.cons hfr
  obtain ⟨x0,rfl,wx0⟩:=hd0.int
  obtain ⟨d1,rr1,rfl,hd1,hfr1⟩:=Fits.cons hfr0
  obtain ⟨x1,rfl,hx1⟩:=hd1.list (n:=1) rfl
  obtain rfl:=Fits.nil hfr1
  have hst:=hv.step hr rfl
  have hvl:=hv.1
  have hszr:=zby hr
  rw [F72.L3.succ,ite'_t (lt_t (by omega)),ite'_t (zn (by omega))]
  simp only [Int.toNat_natCast,zG hr,zaq hr,zat hr,zZ hr]
  simp only [List.getElem?_cons_zero,List.getElem?_cons_succ,Option.bind_some,zx,zQ,zR,zL,ze,zu,zE,zh,zj,zw,zI,zM,zt,zK,bne_self_eq_false,beq_self_eq_true,Bool.not_true]
  rw [c150 (k:=k) (by omega) (a0:=x0) hx1 (by simp only [szC,szD] at hszr ⊢;omega)]
  simp only [List.getElem?_cons_zero,List.getElem?_cons_succ,Option.bind_some,zx,zQ,zR,zL,ze,zu,zE,zh,zj,zw,zI,zM,zt,zK,bne_self_eq_false,beq_self_eq_true,Bool.not_true]
  simp only [zoH,zoI]
  simp only [List.getElem?_cons_zero,List.getElem?_cons_succ,Option.bind_some,zx,zQ,zR,zL,ze,zu,zE,zh,zj,zw,zI,zM,zt,zK,bne_self_eq_false,beq_self_eq_true,Bool.not_true]
  rw [ite'_t (zn (by omega)),zai (m:=a.length) (by omega) (by omega) hlen]
  rw [show ((i:Int)+1)=((i+1:Nat):Int) by omega]
  exact ih (i+1) n _ hst (by omega) (by omega)
theorem c72 {k:Nat} (hk:2000003≤k) {a:Ovi.Rows} (ha:Fit (.list [.int .i64,.list [.int .i64]]) (.list 2 a)) (hs:szD (.list 2 a)≤1048576):C k 72 [.d (.list 2 a)]=some [(false,[.frow 118 2 1 a])]:=by
 obtain ⟨k,rfl⟩:∃ j,k=j+1:=⟨k - 1,by omega⟩
 simp only [szD] at hs
 rw [F72.run,ite'_t (zhp _),ite'_t (zhH (by omega))]
 exact l72 (k:=k) (by omega) ha (by omega) a.length 0 k _ (Filled.start a _) (by omega) (by omega)
theorem l76 {k:Nat} (hk:2000002≤k) {a:Ovi.Rows} (ha:Fit (.list [.int .i64,.list [.int .i64]]) (.list 2 a)) (hs:szR a≤1048576):∀ (m i n:Nat),i+m=a.length→m < n→F76.L4 k (C k) n a a (i:Int)=some [(false,[.d (.bool true)])]:=by
 have hlen:=ha.len
 intro m;induction m with
 | zero =>
  intro i n hm hn
  obtain ⟨n,rfl⟩:∃ j,n=j+1:=⟨n - 1,by omega⟩
  rw [F76.L4.succ,ite'_f (lt_f (by omega))]
 | succ m ih =>
  intro i n hm hn
  obtain ⟨n,rfl⟩:∃ j,n=j+1:=⟨n - 1,by omega⟩
  obtain ⟨row,hr,hfr,hdr⟩:=ha.row (i:=i) (by omega)
  obtain ⟨d0,rr0,rfl,hd0,hfr0⟩:=Fits.cons hfr
  obtain ⟨x0,rfl,wx0⟩:=hd0.int
  obtain ⟨d1,rr1,rfl,hd1,hfr1⟩:=Fits.cons hfr0
  obtain ⟨x1,rfl,hx1⟩:=hd1.list (n:=1) rfl
  obtain rfl:=Fits.nil hfr1
  have hszr:=zby hr
  rw [F76.L4.succ,ite'_t (lt_t (by omega)),ite'_t (zn (by omega))]
  simp only [Int.toNat_natCast,zG hr,zaq hr,zat hr,zZ hr]
  simp only [List.getElem?_cons_zero,List.getElem?_cons_succ,Option.bind_some,zx,zQ,zR,zL,ze,zu,zE,zh,zj,zw,zI,zM,zt,zK,bne_self_eq_false,beq_self_eq_true,Bool.not_true]
  rw [ite'_t (zn (by omega))]
  rw [c153 (k:=k) (by omega) (a0:=x0) hx1 (by simp only [szC,szD] at hszr ⊢;omega)]
  simp only [List.getElem?_cons_zero,List.getElem?_cons_succ,Option.bind_some,zx,zQ,zR,zL,ze,zu,zE,zh,zj,zw,zI,zM,zt,zK,bne_self_eq_false,beq_self_eq_true,Bool.not_true]
  rw [ite'_f rfl,zai (m:=a.length) (by omega) (by omega) hlen]
  rw [show ((i:Int)+1)=((i+1:Nat):Int) by omega]
  exact ih (i+1) n (by omega) (by omega)
theorem c76 {k:Nat} (hk:2000003≤k) {a:Ovi.Rows} (ha:Fit (.list [.int .i64,.list [.int .i64]]) (.list 2 a)) (hs:szD (.list 2 a)≤1048576):C k 76 [.d (.list 2 a),.d (.list 2 a)]=some [(false,[.d (.bool true)])]:=by
 obtain ⟨k,rfl⟩:∃ j,k=j+1:=⟨k - 1,by omega⟩
 simp only [szD] at hs
 rw [F76.run,ite'_f (zgb _)]
 exact l76 (k:=k) (by omega) ha (by omega) a.length 0 k (by omega) (by omega)
theorem l88 {k:Nat} (hk:2000002≤k) {a:Ovi.Rows} (ha:Fit (.list [.int .i64,.list [.int .i64]]) (.list 2 a)):∀ (m i n:Nat) (left:Int),0≤left→left≤1048576→i+m=a.length→m < n→F88.L5 k (C k) n a left (i:Int)=some [(false,[.d (.int .i64 (szT left (szR (a.drop i))))])]:=by
 have hlen:=ha.len
 intro m;induction m with
 | zero =>
  intro i n left h0 h1 hm hn
  obtain ⟨n,rfl⟩:∃ j,n=j+1:=⟨n - 1,by omega⟩
  rw [F88.L5.succ,ite'_f (lt_f (by omega)),List.drop_eq_nil_of_le (by omega)]
  simp only [szR,zaA (left:=left) (s:=0) (by omega)]
  simp
 | succ m ih =>
  intro i n left h0 h1 hm hn
  obtain ⟨n,rfl⟩:∃ j,n=j+1:=⟨n - 1,by omega⟩
  obtain ⟨row,hr,hfr,hdr⟩:=ha.row (i:=i) (by omega)
  obtain ⟨d0,rr0,rfl,hd0,hfr0⟩:=Fits.cons hfr
  obtain ⟨x0,rfl,wx0⟩:=hd0.int
  obtain ⟨d1,rr1,rfl,hd1,hfr1⟩:=Fits.cons hfr0
  obtain ⟨x1,rfl,hx1⟩:=hd1.list (n:=1) rfl
  obtain rfl:=Fits.nil hfr1
  have eR:szR (a.drop i)=szC [.int .i64 x0,.list 1 x1]+szR (a.drop (i+1)):=by rw [hdr];rfl
  rw [F88.L5.succ,ite'_t (lt_t (by omega)),ite'_t (zn (by omega)),eR]
  simp only [Int.toNat_natCast,zG hr,zaq hr,zat hr,zZ hr]
  simp only [List.getElem?_cons_zero,List.getElem?_cons_succ,Option.bind_some,zx,zQ,zR,zL,ze,zu,zE,zh,zj,zw,zI,zM,zt,zK,bne_self_eq_false,beq_self_eq_true,Bool.not_true]
  have cc:=c154 (k:=k) (by omega) (a0:=x0) hx1 h0 h1
  rw [cc]
  simp only [List.getElem?_cons_zero,List.getElem?_cons_succ,Option.bind_some,zx,zQ,zR,zL,ze,zu,zE,zh,zj,zw,zI,zM,zt,zK,bne_self_eq_false,beq_self_eq_true,Bool.not_true]
  rcases zW left (szC [.int .i64 x0,.list 1 x1]) with ⟨q,e⟩ | ⟨q,e⟩<;>rw [e]
  ·rw [ite'_f (zaC (by omega)),zai (m:=a.length) (by omega) (by omega) hlen]
   have:=ih (i+1) n (left - ((szC [.int .i64 x0,.list 1 x1]:Nat):Int)) (by omega) (by omega) (by omega) (by omega)
   rw [show ((i:Int)+1)=((i+1:Nat):Int) by omega,this]
   rcases zW (left - ((szC [.int .i64 x0,.list 1 x1]:Nat):Int)) (szR (a.drop (i+1))) with ⟨q2,e2⟩ | ⟨q2,e2⟩<;>rw [e2]
   ·rw [zaA (by omega)]<;>(congr 6<;>omega)
   ·rw [zah (by omega)]
  ·rw [ite'_t zeU,zah (by omega)]
theorem c88 {k:Nat} (hk:2000003≤k) {a:Ovi.Rows} (ha:Fit (.list [.int .i64,.list [.int .i64]]) (.list 2 a)) {left:Int} (h0:0≤left) (h1:left≤1048576):C k 88 [.d (.list 2 a),.d (.int .i64 left)]=some [(false,[.d (.int .i64 (szT left (szD (.list 2 a))))])]:=by
 obtain ⟨k,rfl⟩:∃ j,k=j+1:=⟨k - 1,by omega⟩
 have hlen:=ha.len;unfold maxLen at hlen
 rw [F88.run,zad (by omega) (by omega)]
 have eD:szD (.list 2 a)=a.length+szR a:=by simp only [szD]
 rw [eD]
 rcases zW left a.length with ⟨q,e⟩ | ⟨q,e⟩
 ·rw [ite'_f (zaC (by omega))]
  have:=l88 (k:=k) (by omega) ha a.length 0 k (left - (a.length:Int)) (by omega) (by omega) (by omega) (by omega)
  rw [List.drop_zero] at this
  rw [show ((0:Int))=((0:Nat):Int) by rfl,this]
  rcases zW (left - (a.length:Int)) (szR a) with ⟨q2,e2⟩ | ⟨q2,e2⟩<;>rw [e2]
  ·rw [zaA (by omega)]<;>(congr 6<;>omega)
  ·rw [zah (by omega)]
 ·rw [ite'_t (by simp only [decide_eq_true_eq];omega),zah (by omega)]
theorem l94 {k:Nat} (hk:2000002≤k) {a:Ovi.Rows} (ha:Fit (.list [.int .i64,.list [.int .i64]]) (.list 2 a)) (hs:szR a≤1048576):∀ (m i n:Nat) (v:Ovi.Rows),Filled a v i 2→i+m=a.length→m < n→F94.L3 k (C k) n a (i:Int) v=some [(false,[.frow 130 2 1 a])]:=by
 have hlen:=ha.len
 intro m;induction m with
 | zero =>
  intro i n v hv hm hn
  obtain ⟨n,rfl⟩:∃ j,n=j+1:=⟨n - 1,by omega⟩
  obtain rfl:i=a.length:=by omega
  rw [F94.L3.succ,ite'_f (lt_f (by omega)),hv.done]
 | succ m ih =>
  intro i n v hv hm hn
  obtain ⟨n,rfl⟩:∃ j,n=j+1:=⟨n - 1,by omega⟩
  obtain ⟨row,hr,hfr,hdr⟩:=ha.row (i:=i) (by omega)
  obtain ⟨d0,rr0,rfl,hd0,hfr0⟩:=Fits.cons hfr
  obtain ⟨x0,rfl,wx0⟩:=hd0.int
  obtain ⟨d1,rr1,rfl,hd1,hfr1⟩:=Fits.cons hfr0
  obtain ⟨x1,rfl,hx1⟩:=hd1.list (n:=1) rfl
  obtain rfl:=Fits.nil hfr1
  have hst:=hv.step hr rfl
  have hvl:=hv.1
  have hszr:=zby hr
  rw [F94.L3.succ,ite'_t (lt_t (by omega)),ite'_t (zn (by omega))]
  simp only [Int.toNat_natCast,zG hr,zaq hr,zat hr,zZ hr]
  simp only [List.getElem?_cons_zero,List.getElem?_cons_succ,Option.bind_some,zx,zQ,zR,zL,ze,zu,zE,zh,zj,zw,zI,zM,zt,zK,bne_self_eq_false,beq_self_eq_true,Bool.not_true]
  rw [c160 (k:=k) (by omega) (a0:=x0) hx1 (by simp only [szC,szD] at hszr ⊢;omega)]
  simp only [List.getElem?_cons_zero,List.getElem?_cons_succ,Option.bind_some,zx,zQ,zR,zL,ze,zu,zE,zh,zj,zw,zI,zM,zt,zK,bne_self_eq_false,beq_self_eq_true,Bool.not_true]
  simp only [zoJ,zoK]
  simp only [List.getElem?_cons_zero,List.getElem?_cons_succ,Option.bind_some,zx,zQ,zR,zL,ze,zu,zE,zh,zj,zw,zI,zM,zt,zK,bne_self_eq_false,beq_self_eq_true,Bool.not_true]
  rw [ite'_t (zn (by omega)),zai (m:=a.length) (by omega) (by omega) hlen]
  rw [show ((i:Int)+1)=((i+1:Nat):Int) by omega]
  exact ih (i+1) n _ hst (by omega) (by omega)
theorem c94 {k:Nat} (hk:2000003≤k) {a:Ovi.Rows} (ha:Fit (.list [.int .i64,.list [.int .i64]]) (.list 2 a)) (hs:szD (.list 2 a)≤1048576):C k 94 [.d (.list 2 a)]=some [(false,[.frow 130 2 1 a])]:=by
 obtain ⟨k,rfl⟩:∃ j,k=j+1:=⟨k - 1,by omega⟩
 simp only [szD] at hs
 rw [F94.run,ite'_t (zhp _),ite'_t (zhH (by omega))]
 exact l94 (k:=k) (by omega) ha (by omega) a.length 0 k _ (Filled.start a _) (by omega) (by omega)
theorem l102 {k:Nat} (hk:2000002≤k) {a:Ovi.Rows} (ha:Fit (.list [.int .i64,.list [.int .i64]]) (.list 2 a)) (hs:szR a≤1048576):∀ (m i n:Nat),i+m=a.length→m < n→F102.L4 k (C k) n a a (i:Int)=some [(false,[.d (.bool true)])]:=by
 have hlen:=ha.len
 intro m;induction m with
 | zero =>
  intro i n hm hn
  obtain ⟨n,rfl⟩:∃ j,n=j+1:=⟨n - 1,by omega⟩
  rw [F102.L4.succ,ite'_f (lt_f (by omega))]
 | succ m ih =>
  intro i n hm hn
  obtain ⟨n,rfl⟩:∃ j,n=j+1:=⟨n - 1,by omega⟩
  obtain ⟨row,hr,hfr,hdr⟩:=ha.row (i:=i) (by omega)
  obtain ⟨d0,rr0,rfl,hd0,hfr0⟩:=Fits.cons hfr
  obtain ⟨x0,rfl,wx0⟩:=hd0.int
  obtain ⟨d1,rr1,rfl,hd1,hfr1⟩:=Fits.cons hfr0
  obtain ⟨x1,rfl,hx1⟩:=hd1.list (n:=1) rfl
  obtain rfl:=Fits.nil hfr1
  have hszr:=zby hr
  rw [F102.L4.succ,ite'_t (lt_t (by omega)),ite'_t (zn (by omega))]
  simp only [Int.toNat_natCast,zG hr,zaq hr,zat hr,zZ hr]
  simp only [List.getElem?_cons_zero,List.getElem?_cons_succ,Option.bind_some,zx,zQ,zR,zL,ze,zu,zE,zh,zj,zw,zI,zM,zt,zK,bne_self_eq_false,beq_self_eq_true,Bool.not_true]
  rw [ite'_t (zn (by omega))]
  rw [c175 (k:=k) (by omega) (a0:=x0) hx1 (by simp only [szC,szD] at hszr ⊢;omega)]
  simp only [List.getElem?_cons_zero,List.getElem?_cons_succ,Option.bind_some,zx,zQ,zR,zL,ze,zu,zE,zh,zj,zw,zI,zM,zt,zK,bne_self_eq_false,beq_self_eq_true,Bool.not_true]
  rw [ite'_f rfl,zai (m:=a.length) (by omega) (by omega) hlen]
  rw [show ((i:Int)+1)=((i+1:Nat):Int) by omega]
  exact ih (i+1) n (by omega) (by omega)
theorem c102 {k:Nat} (hk:2000003≤k) {a:Ovi.Rows} (ha:Fit (.list [.int .i64,.list [.int .i64]]) (.list 2 a)) (hs:szD (.list 2 a)≤1048576):C k 102 [.d (.list 2 a),.d (.list 2 a)]=some [(false,[.d (.bool true)])]:=by
 obtain ⟨k,rfl⟩:∃ j,k=j+1:=⟨k - 1,by omega⟩
 simp only [szD] at hs
 rw [F102.run,ite'_f (zgb _)]
 exact l102 (k:=k) (by omega) ha (by omega) a.length 0 k (by omega) (by omega)
theorem c12 {k:Nat} (hk:2000004≤k) {a0:Ovi.Rows} (ha0:Fit (.list [.str,.int .i64,.bool]) (.list 3 a0)) {a1:Ovi.Rows} (ha1:Fit (.list [.int .i64,.list [.int .i64]]) (.list 2 a1)) {left:Int} (h0:0≤left) (h1:left≤1048576):C k 12 [.agg [.d (.list 3 a0),.d (.list 2 a1)],.d (.int .i64 left)]=some [(false,[.d (.int .i64 (szT left (szC [.list 3 a0,.list 2 a1])))])]:=by
 obtain ⟨k,rfl⟩:∃ j,k=j+1:=⟨k - 1,by omega⟩
 have eT:szC [.list 3 a0,.list 2 a1]=(szD (.list 3 a0))+(szD (.list 2 a1)):=by simp only [szC,szD]<;>omega
 rw [eT,F12.run]
 rw [c21 (k:=k) (by omega)  ha0 (left:=left) (by omega) (by omega)]
 simp only [List.getElem?_cons_zero,List.getElem?_cons_succ,Option.bind_some,zx,zQ,zR,zL,ze,zu,zE,zh,zj,zw,zI,zM,zt,zK,bne_self_eq_false,beq_self_eq_true,Bool.not_true]
 rcases zW (left) (szD (.list 3 a0)) with ⟨q0,e0⟩ | ⟨q0,e0⟩<;>rw [e0]
 rotate_left
 ·rw [ite'_t (by simp only [decide_eq_true_eq];omega)]<;>first | rfl | rw [zah (by omega)]
 rw [ite'_f (zaC (by omega))]
 rw [c66 (k:=k) (by omega)  ha1 (left:=left - ((szD (.list 3 a0):Nat):Int)) (by omega) (by omega)]
 simp only [List.getElem?_cons_zero,List.getElem?_cons_succ,Option.bind_some,zx,zQ,zR,zL,ze,zu,zE,zh,zj,zw,zI,zM,zt,zK,bne_self_eq_false,beq_self_eq_true,Bool.not_true]
 rcases zW (left - ((szD (.list 3 a0):Nat):Int)) (szD (.list 2 a1)) with ⟨q1,e1⟩ | ⟨q1,e1⟩<;>rw [e1]
 rotate_left
 ·rw [ite'_t (by simp only [decide_eq_true_eq];omega)]<;>first | rfl | rw [zah (by omega)]
 rw [ite'_f (zaC (by omega))]<;>first | rfl | (rw [zaA (by omega)]<;>(congr 6<;>omega))
theorem c14 {k:Nat} (hk:2000004≤k) {a0:Ovi.Rows} (ha0:Fit (.list [.str,.int .i64,.bool]) (.list 3 a0)) {a1:Ovi.Rows} (ha1:Fit (.list [.int .i64,.list [.int .i64]]) (.list 2 a1)) (s0:szD (.list 3 a0)≤1048576) (s1:szD (.list 2 a1)≤1048576):C k 14 [.agg [.d (.list 3 a0),.d (.list 2 a1)]]=some [(true,[.row 133 3 a0,.frow 118 2 1 a1])]:=by
 obtain ⟨k,rfl⟩:∃ j,k=j+1:=⟨k - 1,by omega⟩
 rw [F14.run]
 rw [c24 (k:=k) (by omega)  ha0 s0]
 simp only [List.getElem?_cons_zero,List.getElem?_cons_succ,Option.bind_some,zx,zQ,zR,zL,ze,zu,zE,zh,zj,zw,zI,zM,zt,zK,bne_self_eq_false,beq_self_eq_true,Bool.not_true]
 rw [c72 (k:=k) (by omega)  ha1 s1]
 simp only [List.getElem?_cons_zero,List.getElem?_cons_succ,Option.bind_some,zx,zQ,zR,zL,ze,zu,zE,zh,zj,zw,zI,zM,zt,zK,bne_self_eq_false,beq_self_eq_true,Bool.not_true]
theorem c16 {k:Nat} (hk:2000004≤k) {a0:Ovi.Rows} (ha0:Fit (.list [.str,.int .i64,.bool]) (.list 3 a0)) {a1:Ovi.Rows} (ha1:Fit (.list [.int .i64,.list [.int .i64]]) (.list 2 a1)) (s0:szD (.list 3 a0)≤1048576) (s1:szD (.list 2 a1)≤1048576):C k 16 [.agg [.d (.list 3 a0),.d (.list 2 a1)],.agg [.d (.list 3 a0),.d (.list 2 a1)]]=some [(false,[.d (.bool true)])]:=by
 obtain ⟨k,rfl⟩:∃ j,k=j+1:=⟨k - 1,by omega⟩
 rw [F16.run]
 rw [c27 (k:=k) (by omega)  ha0 s0]
 rw [c76 (k:=k) (by omega)  ha1 s1]
 simp only [List.getElem?_cons_zero,List.getElem?_cons_succ,Option.bind_some,zx,zQ,zR,zL,ze,zu,zE,zh,zj,zw,zI,zM,zt,zK,bne_self_eq_false,beq_self_eq_true,Bool.not_true]
 rfl
theorem c22 {k:Nat} (hk:2000004≤k) {a0:Ovi.Rows} (ha0:Fit (.list [.int .i64]) (.list 1 a0)) {a1:Ovi.Rows} (ha1:Fit (.list [.int .i64,.list [.int .i64]]) (.list 2 a1)) {left:Int} (h0:0≤left) (h1:left≤1048576):C k 22 [.agg [.d (.list 1 a0),.d (.list 2 a1)],.d (.int .i64 left)]=some [(false,[.d (.int .i64 (szT left (szC [.list 1 a0,.list 2 a1])))])]:=by
 obtain ⟨k,rfl⟩:∃ j,k=j+1:=⟨k - 1,by omega⟩
 have eT:szC [.list 1 a0,.list 2 a1]=(szD (.list 1 a0))+(szD (.list 2 a1)):=by simp only [szC,szD]<;>omega
 rw [eT,F22.run]
 rw [c87 (k:=k) (by omega)  ha0 (left:=left) (by omega) (by omega)]
 simp only [List.getElem?_cons_zero,List.getElem?_cons_succ,Option.bind_some,zx,zQ,zR,zL,ze,zu,zE,zh,zj,zw,zI,zM,zt,zK,bne_self_eq_false,beq_self_eq_true,Bool.not_true]
 rcases zW (left) (szD (.list 1 a0)) with ⟨q0,e0⟩ | ⟨q0,e0⟩<;>rw [e0]
 rotate_left
 ·rw [ite'_t (by simp only [decide_eq_true_eq];omega)]<;>first | rfl | rw [zah (by omega)]
 rw [ite'_f (zaC (by omega))]
 rw [c88 (k:=k) (by omega)  ha1 (left:=left - ((szD (.list 1 a0):Nat):Int)) (by omega) (by omega)]
 simp only [List.getElem?_cons_zero,List.getElem?_cons_succ,Option.bind_some,zx,zQ,zR,zL,ze,zu,zE,zh,zj,zw,zI,zM,zt,zK,bne_self_eq_false,beq_self_eq_true,Bool.not_true]
 rcases zW (left - ((szD (.list 1 a0):Nat):Int)) (szD (.list 2 a1)) with ⟨q1,e1⟩ | ⟨q1,e1⟩<;>rw [e1]
 rotate_left
 ·rw [ite'_t (by simp only [decide_eq_true_eq];omega)]<;>first | rfl | rw [zah (by omega)]
 rw [ite'_f (zaC (by omega))]<;>first | rfl | (rw [zaA (by omega)]<;>(congr 6<;>omega))
theorem zpv {a0:Ovi.Rows} {a1:Ovi.Rows}:resO 3 1 1 true 2 [(true,[.row 3 1 a0,.frow 130 2 1 a1])] 0 0=some a0:=rfl
theorem zpw {a0:Ovi.Rows} {a1:Ovi.Rows}:resF 130 2 1 1 true 2 [(true,[.row 3 1 a0,.frow 130 2 1 a1])] 0 1=some a1:=rfl
theorem c25 {k:Nat} (hk:2000004≤k) {a0:Ovi.Rows} (ha0:Fit (.list [.int .i64]) (.list 1 a0)) {a1:Ovi.Rows} (ha1:Fit (.list [.int .i64,.list [.int .i64]]) (.list 2 a1)) (s0:szD (.list 1 a0)≤1048576) (s1:szD (.list 2 a1)≤1048576):C k 25 [.agg [.d (.list 1 a0),.d (.list 2 a1)]]=some [(true,[.row 3 1 a0,.frow 130 2 1 a1])]:=by
 obtain ⟨k,rfl⟩:∃ j,k=j+1:=⟨k - 1,by omega⟩
 rw [F25.run]
 rw [c57 (k:=k) (by omega)  ha0 s0]
 simp only [List.getElem?_cons_zero,List.getElem?_cons_succ,Option.bind_some,zx,zQ,zR,zL,ze,zu,zE,zh,zj,zw,zI,zM,zt,zK,bne_self_eq_false,beq_self_eq_true,Bool.not_true]
 rw [c94 (k:=k) (by omega)  ha1 s1]
 simp only [List.getElem?_cons_zero,List.getElem?_cons_succ,Option.bind_some,zx,zQ,zR,zL,ze,zu,zE,zh,zj,zw,zI,zM,zt,zK,bne_self_eq_false,beq_self_eq_true,Bool.not_true]
theorem c28 {k:Nat} (hk:2000004≤k) {a0:Ovi.Rows} (ha0:Fit (.list [.int .i64]) (.list 1 a0)) {a1:Ovi.Rows} (ha1:Fit (.list [.int .i64,.list [.int .i64]]) (.list 2 a1)) (s0:szD (.list 1 a0)≤1048576) (s1:szD (.list 2 a1)≤1048576):C k 28 [.agg [.d (.list 1 a0),.d (.list 2 a1)],.agg [.d (.list 1 a0),.d (.list 2 a1)]]=some [(false,[.d (.bool true)])]:=by
 obtain ⟨k,rfl⟩:∃ j,k=j+1:=⟨k - 1,by omega⟩
 rw [F28.run]
 rw [c60 (k:=k) (by omega)  ha0 s0]
 rw [c102 (k:=k) (by omega)  ha1 s1]
 simp only [List.getElem?_cons_zero,List.getElem?_cons_succ,Option.bind_some,zx,zQ,zR,zL,ze,zu,zE,zh,zj,zw,zI,zM,zt,zK,bne_self_eq_false,beq_self_eq_true,Bool.not_true]
 rfl
theorem c114 {k:Nat} (hk:2000004≤k) {a0:Ovi.Rows} (ha0:Fit (.list [.int .i64,.list [.int .i64]]) (.list 2 a0)) {a1:Ovi.Rows} (ha1:Fit (.list [.int .i64,.list [.int .i64]]) (.list 2 a1)) {a2:Bool} {a3:Int} {a4:Int} {left:Int} (h0:0≤left) (h1:left≤1048576):C k 114 [.agg [.d (.list 2 a0),.d (.list 2 a1),.d (.bool a2),.d (.int .i64 a3),.d (.int .i64 a4)],.d (.int .i64 left)]=some [(false,[.d (.int .i64 (szT left (szC [.list 2 a0,.list 2 a1,.bool a2,.int .i64 a3,.int .i64 a4])))])]:=by
 obtain ⟨k,rfl⟩:∃ j,k=j+1:=⟨k - 1,by omega⟩
 have eT:szC [.list 2 a0,.list 2 a1,.bool a2,.int .i64 a3,.int .i64 a4]=(szD (.list 2 a0))+(szD (.list 2 a1)):=by simp only [szC,szD]<;>omega
 rw [eT,F114.run]
 rw [c88 (k:=k) (by omega)  ha0 (left:=left) (by omega) (by omega)]
 simp only [List.getElem?_cons_zero,List.getElem?_cons_succ,Option.bind_some,zx,zQ,zR,zL,ze,zu,zE,zh,zj,zw,zI,zM,zt,zK,bne_self_eq_false,beq_self_eq_true,Bool.not_true]
 rcases zW (left) (szD (.list 2 a0)) with ⟨q0,e0⟩ | ⟨q0,e0⟩<;>rw [e0]
 rotate_left
 ·rw [ite'_t (by simp only [decide_eq_true_eq];omega)]<;>first | rfl | rw [zah (by omega)]
 rw [ite'_f (zaC (by omega))]
 rw [c88 (k:=k) (by omega)  ha1 (left:=left - ((szD (.list 2 a0):Nat):Int)) (by omega) (by omega)]
 simp only [List.getElem?_cons_zero,List.getElem?_cons_succ,Option.bind_some,zx,zQ,zR,zL,ze,zu,zE,zh,zj,zw,zI,zM,zt,zK,bne_self_eq_false,beq_self_eq_true,Bool.not_true]
 rcases zW (left - ((szD (.list 2 a0):Nat):Int)) (szD (.list 2 a1)) with ⟨q1,e1⟩ | ⟨q1,e1⟩<;>rw [e1]
 rotate_left
 ·rw [ite'_t (by simp only [decide_eq_true_eq];omega)]<;>first | rfl | rw [zah (by omega)]
 rw [ite'_f (zaC (by omega))]<;>first | rfl | (rw [zaA (by omega)]<;>(congr 6<;>omega))
theorem zoA {a0:Ovi.Rows} {a1:Ovi.Rows} {a2:Bool} {a3:Int} {a4:Int}:resF 130 2 1 1 true 5 [(true,[.frow 130 2 1 a0,.frow 130 2 1 a1,.d (.bool a2),.d (.int .i64 a3),.d (.int .i64 a4)])] 0 0=some a0:=rfl
theorem zoB {a0:Ovi.Rows} {a1:Ovi.Rows} {a2:Bool} {a3:Int} {a4:Int}:resF 130 2 1 1 true 5 [(true,[.frow 130 2 1 a0,.frow 130 2 1 a1,.d (.bool a2),.d (.int .i64 a3),.d (.int .i64 a4)])] 0 1=some a1:=rfl
theorem zoC {a0:Ovi.Rows} {a1:Ovi.Rows} {a2:Bool} {a3:Int} {a4:Int}:resB 1 true 5 [(true,[.frow 130 2 1 a0,.frow 130 2 1 a1,.d (.bool a2),.d (.int .i64 a3),.d (.int .i64 a4)])] 0 2=some a2:=rfl
theorem zoD {a0:Ovi.Rows} {a1:Ovi.Rows} {a2:Bool} {a3:Int} {a4:Int}:resI .i64 1 true 5 [(true,[.frow 130 2 1 a0,.frow 130 2 1 a1,.d (.bool a2),.d (.int .i64 a3),.d (.int .i64 a4)])] 0 3=some a3:=rfl
theorem zoE {a0:Ovi.Rows} {a1:Ovi.Rows} {a2:Bool} {a3:Int} {a4:Int}:resI .i64 1 true 5 [(true,[.frow 130 2 1 a0,.frow 130 2 1 a1,.d (.bool a2),.d (.int .i64 a3),.d (.int .i64 a4)])] 0 4=some a4:=rfl
theorem c119 {k:Nat} (hk:2000004≤k) {a0:Ovi.Rows} (ha0:Fit (.list [.int .i64,.list [.int .i64]]) (.list 2 a0)) {a1:Ovi.Rows} (ha1:Fit (.list [.int .i64,.list [.int .i64]]) (.list 2 a1)) {a2:Bool} {a3:Int} {a4:Int} (s0:szD (.list 2 a0)≤1048576) (s1:szD (.list 2 a1)≤1048576):C k 119 [.agg [.d (.list 2 a0),.d (.list 2 a1),.d (.bool a2),.d (.int .i64 a3),.d (.int .i64 a4)]]=some [(true,[.frow 130 2 1 a0,.frow 130 2 1 a1,.d (.bool a2),.d (.int .i64 a3),.d (.int .i64 a4)])]:=by
 obtain ⟨k,rfl⟩:∃ j,k=j+1:=⟨k - 1,by omega⟩
 rw [F119.run]
 rw [c94 (k:=k) (by omega)  ha0 s0]
 simp only [List.getElem?_cons_zero,List.getElem?_cons_succ,Option.bind_some,zx,zQ,zR,zL,ze,zu,zE,zh,zj,zw,zI,zM,zt,zK,bne_self_eq_false,beq_self_eq_true,Bool.not_true]
 rw [c94 (k:=k) (by omega)  ha1 s1]
 simp only [List.getElem?_cons_zero,List.getElem?_cons_succ,Option.bind_some,zx,zQ,zR,zL,ze,zu,zE,zh,zj,zw,zI,zM,zt,zK,bne_self_eq_false,beq_self_eq_true,Bool.not_true]
theorem c123 {k:Nat} (hk:2000004≤k) {a0:Ovi.Rows} (ha0:Fit (.list [.int .i64,.list [.int .i64]]) (.list 2 a0)) {a1:Ovi.Rows} (ha1:Fit (.list [.int .i64,.list [.int .i64]]) (.list 2 a1)) {a2:Bool} {a3:Int} {a4:Int} (s0:szD (.list 2 a0)≤1048576) (s1:szD (.list 2 a1)≤1048576):C k 123 [.agg [.d (.list 2 a0),.d (.list 2 a1),.d (.bool a2),.d (.int .i64 a3),.d (.int .i64 a4)],.agg [.d (.list 2 a0),.d (.list 2 a1),.d (.bool a2),.d (.int .i64 a3),.d (.int .i64 a4)]]=some [(false,[.d (.bool true)])]:=by
 obtain ⟨k,rfl⟩:∃ j,k=j+1:=⟨k - 1,by omega⟩
 rw [F123.run]
 rw [c102 (k:=k) (by omega)  ha0 s0]
 rw [c102 (k:=k) (by omega)  ha1 s1]
 simp only [List.getElem?_cons_zero,List.getElem?_cons_succ,Option.bind_some,zx,zQ,zR,zL,ze,zu,zE,zh,zj,zw,zI,zM,zt,zK,bne_self_eq_false,beq_self_eq_true,Bool.not_true]
 rfl
theorem l44 {k:Nat} (hk:2000004≤k) {a:Ovi.Rows} (ha:Fit (.list [.list [.int .i64,.list [.int .i64]],.list [.int .i64,.list [.int .i64]],.bool,.int .i64,.int .i64]) (.list 5 a)):∀ (m i n:Nat) (left:Int),0≤left→left≤1048576→i+m=a.length→m < n→F44.L5 k (C k) n a left (i:Int)=some [(false,[.d (.int .i64 (szT left (szR (a.drop i))))])]:=by
 have hlen:=ha.len
 intro m;induction m with
 | zero =>
  intro i n left h0 h1 hm hn
  obtain ⟨n,rfl⟩:∃ j,n=j+1:=⟨n - 1,by omega⟩
  rw [F44.L5.succ,ite'_f (lt_f (by omega)),List.drop_eq_nil_of_le (by omega)]
  simp only [szR,zaA (left:=left) (s:=0) (by omega)]
  simp
 | succ m ih =>
  intro i n left h0 h1 hm hn
  obtain ⟨n,rfl⟩:∃ j,n=j+1:=⟨n - 1,by omega⟩
  obtain ⟨row,hr,hfr,hdr⟩:=ha.row (i:=i) (by omega)
  obtain ⟨d0,rr0,rfl,hd0,hfr0⟩:=Fits.cons hfr
  obtain ⟨x0,rfl,hx0⟩:=hd0.list (n:=2) rfl
  obtain ⟨d1,rr1,rfl,hd1,hfr1⟩:=Fits.cons hfr0
  obtain ⟨x1,rfl,hx1⟩:=hd1.list (n:=2) rfl
  obtain ⟨d2,rr2,rfl,hd2,hfr2⟩:=Fits.cons hfr1
  obtain ⟨x2,rfl⟩:=hd2.bool
  obtain ⟨d3,rr3,rfl,hd3,hfr3⟩:=Fits.cons hfr2
  obtain ⟨x3,rfl,wx3⟩:=hd3.int
  obtain ⟨d4,rr4,rfl,hd4,hfr4⟩:=Fits.cons hfr3
  obtain ⟨x4,rfl,wx4⟩:=hd4.int
  obtain rfl:=Fits.nil hfr4
  have eR:szR (a.drop i)=szC [.list 2 x0,.list 2 x1,.bool x2,.int .i64 x3,.int .i64 x4]+szR (a.drop (i+1)):=by rw [hdr];rfl
  rw [F44.L5.succ,ite'_t (lt_t (by omega)),ite'_t (zn (by omega)),eR]
  simp only [Int.toNat_natCast,zG hr,zaq hr,zat hr,zZ hr]
  simp only [List.getElem?_cons_zero,List.getElem?_cons_succ,Option.bind_some,zx,zQ,zR,zL,ze,zu,zE,zh,zj,zw,zI,zM,zt,zK,bne_self_eq_false,beq_self_eq_true,Bool.not_true]
  have cc:=c114 (k:=k) (by omega) (a2:=x2) (a3:=x3) (a4:=x4) hx0 hx1 h0 h1
  rw [cc]
  simp only [List.getElem?_cons_zero,List.getElem?_cons_succ,Option.bind_some,zx,zQ,zR,zL,ze,zu,zE,zh,zj,zw,zI,zM,zt,zK,bne_self_eq_false,beq_self_eq_true,Bool.not_true]
  rcases zW left (szC [.list 2 x0,.list 2 x1,.bool x2,.int .i64 x3,.int .i64 x4]) with ⟨q,e⟩ | ⟨q,e⟩<;>rw [e]
  ·rw [ite'_f (zaC (by omega)),zai (m:=a.length) (by omega) (by omega) hlen]
   have:=ih (i+1) n (left - ((szC [.list 2 x0,.list 2 x1,.bool x2,.int .i64 x3,.int .i64 x4]:Nat):Int)) (by omega) (by omega) (by omega) (by omega)
   rw [show ((i:Int)+1)=((i+1:Nat):Int) by omega,this]
   rcases zW (left - ((szC [.list 2 x0,.list 2 x1,.bool x2,.int .i64 x3,.int .i64 x4]:Nat):Int)) (szR (a.drop (i+1))) with ⟨q2,e2⟩ | ⟨q2,e2⟩<;>rw [e2]
   ·rw [zaA (by omega)]<;>(congr 6<;>omega)
   ·rw [zah (by omega)]
  ·rw [ite'_t zeU,zah (by omega)]
theorem c44 {k:Nat} (hk:2000005≤k) {a:Ovi.Rows} (ha:Fit (.list [.list [.int .i64,.list [.int .i64]],.list [.int .i64,.list [.int .i64]],.bool,.int .i64,.int .i64]) (.list 5 a)) {left:Int} (h0:0≤left) (h1:left≤1048576):C k 44 [.d (.list 5 a),.d (.int .i64 left)]=some [(false,[.d (.int .i64 (szT left (szD (.list 5 a))))])]:=by
 obtain ⟨k,rfl⟩:∃ j,k=j+1:=⟨k - 1,by omega⟩
 have hlen:=ha.len;unfold maxLen at hlen
 rw [F44.run,zad (by omega) (by omega)]
 have eD:szD (.list 5 a)=a.length+szR a:=by simp only [szD]
 rw [eD]
 rcases zW left a.length with ⟨q,e⟩ | ⟨q,e⟩
 ·rw [ite'_f (zaC (by omega))]
  have:=l44 (k:=k) (by omega) ha a.length 0 k (left - (a.length:Int)) (by omega) (by omega) (by omega) (by omega)
  rw [List.drop_zero] at this
  rw [show ((0:Int))=((0:Nat):Int) by rfl,this]
  rcases zW (left - (a.length:Int)) (szR a) with ⟨q2,e2⟩ | ⟨q2,e2⟩<;>rw [e2]
  ·rw [zaA (by omega)]<;>(congr 6<;>omega)
  ·rw [zah (by omega)]
 ·rw [ite'_t (by simp only [decide_eq_true_eq];omega),zah (by omega)]
theorem l47 {k:Nat} (hk:2000004≤k) {a:Ovi.Rows} (ha:Fit (.list [.list [.int .i64,.list [.int .i64]],.list [.int .i64,.list [.int .i64]],.bool,.int .i64,.int .i64]) (.list 5 a)) (hs:szR a≤1048576):∀ (m i n:Nat) (v:Ovi.Rows),Filled a v i 5→i+m=a.length→m < n→F47.L3 k (C k) n a (i:Int) v=some [(false,[.frow 157 5 2 a])]:=by
 have hlen:=ha.len
 intro m;induction m with
 | zero =>
  intro i n v hv hm hn
  obtain ⟨n,rfl⟩:∃ j,n=j+1:=⟨n - 1,by omega⟩
  obtain rfl:i=a.length:=by omega
  rw [F47.L3.succ,ite'_f (lt_f (by omega)),hv.done]
 | succ m ih =>
  intro i n v hv hm hn
  obtain ⟨n,rfl⟩:∃ j,n=j+1:=⟨n - 1,by omega⟩
  obtain ⟨row,hr,hfr,hdr⟩:=ha.row (i:=i) (by omega)
  obtain ⟨d0,rr0,rfl,hd0,hfr0⟩:=Fits.cons hfr
  obtain ⟨x0,rfl,hx0⟩:=hd0.list (n:=2) rfl
  obtain ⟨d1,rr1,rfl,hd1,hfr1⟩:=Fits.cons hfr0
  obtain ⟨x1,rfl,hx1⟩:=hd1.list (n:=2) rfl
  obtain ⟨d2,rr2,rfl,hd2,hfr2⟩:=Fits.cons hfr1
  obtain ⟨x2,rfl⟩:=hd2.bool
  obtain ⟨d3,rr3,rfl,hd3,hfr3⟩:=Fits.cons hfr2
  obtain ⟨x3,rfl,wx3⟩:=hd3.int
  obtain ⟨d4,rr4,rfl,hd4,hfr4⟩:=Fits.cons hfr3
  obtain ⟨x4,rfl,wx4⟩:=hd4.int
  obtain rfl:=Fits.nil hfr4
  have hst:=hv.step hr rfl
  have hvl:=hv.1
  have hszr:=zby hr
  rw [F47.L3.succ,ite'_t (lt_t (by omega)),ite'_t (zn (by omega))]
  simp only [Int.toNat_natCast,zG hr,zaq hr,zat hr,zZ hr]
  simp only [List.getElem?_cons_zero,List.getElem?_cons_succ,Option.bind_some,zx,zQ,zR,zL,ze,zu,zE,zh,zj,zw,zI,zM,zt,zK,bne_self_eq_false,beq_self_eq_true,Bool.not_true]
  rw [c119 (k:=k) (by omega) (a2:=x2) (a3:=x3) (a4:=x4) hx0 hx1 (by simp only [szC,szD] at hszr ⊢;omega) (by simp only [szC,szD] at hszr ⊢;omega)]
  simp only [List.getElem?_cons_zero,List.getElem?_cons_succ,Option.bind_some,zx,zQ,zR,zL,ze,zu,zE,zh,zj,zw,zI,zM,zt,zK,bne_self_eq_false,beq_self_eq_true,Bool.not_true]
  simp only [zoA,zoB,zoC,zoD,zoE]
  simp only [List.getElem?_cons_zero,List.getElem?_cons_succ,Option.bind_some,zx,zQ,zR,zL,ze,zu,zE,zh,zj,zw,zI,zM,zt,zK,bne_self_eq_false,beq_self_eq_true,Bool.not_true]
  rw [ite'_t (zn (by omega)),zai (m:=a.length) (by omega) (by omega) hlen]
  rw [show ((i:Int)+1)=((i+1:Nat):Int) by omega]
  exact ih (i+1) n _ hst (by omega) (by omega)
theorem c47 {k:Nat} (hk:2000005≤k) {a:Ovi.Rows} (ha:Fit (.list [.list [.int .i64,.list [.int .i64]],.list [.int .i64,.list [.int .i64]],.bool,.int .i64,.int .i64]) (.list 5 a)) (hs:szD (.list 5 a)≤1048576):C k 47 [.d (.list 5 a)]=some [(false,[.frow 157 5 2 a])]:=by
 obtain ⟨k,rfl⟩:∃ j,k=j+1:=⟨k - 1,by omega⟩
 simp only [szD] at hs
 rw [F47.run,ite'_t (zhp _),ite'_t (zhH (by omega))]
 exact l47 (k:=k) (by omega) ha (by omega) a.length 0 k _ (Filled.start a _) (by omega) (by omega)
theorem l50 {k:Nat} (hk:2000004≤k) {a:Ovi.Rows} (ha:Fit (.list [.list [.int .i64,.list [.int .i64]],.list [.int .i64,.list [.int .i64]],.bool,.int .i64,.int .i64]) (.list 5 a)) (hs:szR a≤1048576):∀ (m i n:Nat),i+m=a.length→m < n→F50.L4 k (C k) n a a (i:Int)=some [(false,[.d (.bool true)])]:=by
 have hlen:=ha.len
 intro m;induction m with
 | zero =>
  intro i n hm hn
  obtain ⟨n,rfl⟩:∃ j,n=j+1:=⟨n - 1,by omega⟩
  rw [F50.L4.succ,ite'_f (lt_f (by omega))]
 | succ m ih =>
  intro i n hm hn
  obtain ⟨n,rfl⟩:∃ j,n=j+1:=⟨n - 1,by omega⟩
  obtain ⟨row,hr,hfr,hdr⟩:=ha.row (i:=i) (by omega)
  obtain ⟨d0,rr0,rfl,hd0,hfr0⟩:=Fits.cons hfr
  obtain ⟨x0,rfl,hx0⟩:=hd0.list (n:=2) rfl
  obtain ⟨d1,rr1,rfl,hd1,hfr1⟩:=Fits.cons hfr0
  obtain ⟨x1,rfl,hx1⟩:=hd1.list (n:=2) rfl
  obtain ⟨d2,rr2,rfl,hd2,hfr2⟩:=Fits.cons hfr1
  obtain ⟨x2,rfl⟩:=hd2.bool
  obtain ⟨d3,rr3,rfl,hd3,hfr3⟩:=Fits.cons hfr2
  obtain ⟨x3,rfl,wx3⟩:=hd3.int
  obtain ⟨d4,rr4,rfl,hd4,hfr4⟩:=Fits.cons hfr3
  obtain ⟨x4,rfl,wx4⟩:=hd4.int
  obtain rfl:=Fits.nil hfr4
  have hszr:=zby hr
  rw [F50.L4.succ,ite'_t (lt_t (by omega)),ite'_t (zn (by omega))]
  simp only [Int.toNat_natCast,zG hr,zaq hr,zat hr,zZ hr]
  simp only [List.getElem?_cons_zero,List.getElem?_cons_succ,Option.bind_some,zx,zQ,zR,zL,ze,zu,zE,zh,zj,zw,zI,zM,zt,zK,bne_self_eq_false,beq_self_eq_true,Bool.not_true]
  rw [ite'_t (zn (by omega))]
  rw [c123 (k:=k) (by omega) (a2:=x2) (a3:=x3) (a4:=x4) hx0 hx1 (by simp only [szC,szD] at hszr ⊢;omega) (by simp only [szC,szD] at hszr ⊢;omega)]
  simp only [List.getElem?_cons_zero,List.getElem?_cons_succ,Option.bind_some,zx,zQ,zR,zL,ze,zu,zE,zh,zj,zw,zI,zM,zt,zK,bne_self_eq_false,beq_self_eq_true,Bool.not_true]
  rw [ite'_f rfl,zai (m:=a.length) (by omega) (by omega) hlen]
  rw [show ((i:Int)+1)=((i+1:Nat):Int) by omega]
  exact ih (i+1) n (by omega) (by omega)
theorem c50 {k:Nat} (hk:2000005≤k) {a:Ovi.Rows} (ha:Fit (.list [.list [.int .i64,.list [.int .i64]],.list [.int .i64,.list [.int .i64]],.bool,.int .i64,.int .i64]) (.list 5 a)) (hs:szD (.list 5 a)≤1048576):C k 50 [.d (.list 5 a),.d (.list 5 a)]=some [(false,[.d (.bool true)])]:=by
 obtain ⟨k,rfl⟩:∃ j,k=j+1:=⟨k - 1,by omega⟩
 simp only [szD] at hs
 rw [F50.run,ite'_f (zgb _)]
 exact l50 (k:=k) (by omega) ha (by omega) a.length 0 k (by omega) (by omega)
end Go.Proofs.YthicohakeljdcaaGreat.Q
namespace Go.Proofs.YthicohakeljdcaaGreat.Q
open Go Ovi
def bo (b:Bool):Option Res:=some [(false,[.d (.bool b)])]
theorem zar {b c:Bool} (h:b=c):bo b=bo c:=by rw [h]
theorem c68 (k:Nat) (a l h:Int):C (k+1) 68 [.d (.int .i64 a),.d (.int .i64 l),.d (.int .i64 h)]=bo (decide (l≤a∧a≤h)):=by
 rw [F68.run]
 by_cases h1:l≤a
 ·rw [ite'_t (by simpa using h1)];exact zar (by simp [h1])
 ·rw [ite'_f (by simpa using h1)];exact zar (by simp [h1])
theorem c73 (k:Nat) (a l h:Int):C (k+1) 73 [.d (.int .i64 a),.d (.int .i64 l),.d (.int .i64 h)]=bo (decide (l≤a∧a≤h)):=by
 rw [F73.run]
 by_cases h1:l≤a
 ·rw [ite'_t (by simpa using h1)];exact zar (by simp [h1])
 ·rw [ite'_f (by simpa using h1)];exact zar (by simp [h1])
theorem bB (b:Bool) (k:Bool→Option Res):(za (bo b) fun r=>zi (resB 1 false 1 r 0 0) k)=k b:=rfl
variable {k:Nat}
theorem c81 (zs:List Int) (v:Int) (hk:zs.length < k) (hz:zs.length≤maxLen):C (k+1) 81 [.d (.list 1 (I1 zs)),.d (.int .i64 v)]=bo (decide (v∈zs)):=by
 rw [F81.run]
 have:=zbc (xs:=zs) (L:=fun n i=>F81.L2 k (C k) n (I1 zs) v i) (stop:=fun x=>x==v) (hit:=bo true) (fin:=bo false)
  (fun n i x hx=>by
   have hi:=(List.getElem?_eq_some_iff.1 hx).1
   rw [F81.L2.succ,zl,ite'_t (lt_t hi),ite'_t (zn hi)]
   simp only [Int.toNat_natCast,zG (I1_get' hx),List.getElem?_cons_zero,Option.bind_some,zx,ze]
   rw [zy hi hz];rfl)
  (fun n=>by rw [F81.L2.succ,zl,ite'_f (lt_f (by omega))];rfl) k hk
 rw [show F81.L2 k (C k) k (I1 zs) v 0=_ from this]
 by_cases h:v∈zs
 ·rw [List.any_eq_true.2 ⟨v,h,by simp⟩];exact zar (by simp [h])
 ·rw [show zs.any (fun x=>x==v)=false by rw [List.any_eq_false];intro x hx;simp;intro e;exact h (e▸hx)];exact zar (by simp [h])
theorem c83 (zs:List Int) (v:Int) (hk:zs.length < k) (hz:zs.length≤maxLen):C (k+2) 83 [.d (.list 1 (I1 zs)),.d (.int .i64 v)]=bo (decide (v∈zs)):=by
 rw [F83.run,F85.run,zl]
 have:=zak (xs:=zs) (L:=fun n i=>F85.L2 k (C k) n (I1 zs) v (zs.length:Int) i) (stop:=fun _ x=>v==x) (hit:=fun i=>some [(false,[.d (.int .i64 (i:Int))])]) (fin:=some [(false,[.d (.int .i64 (-1))])])
  (fun n i x hx=>by
   have hi:=(List.getElem?_eq_some_iff.1 hx).1
   rw [F85.L2.succ,zl,ite'_t (lt_t hi),ite'_t (zn hi)]
   simp only [Int.toNat_natCast,zG (I1_get' hx),List.getElem?_cons_zero,Option.bind_some,zx,ze]
   rw [zy hi hz];rfl)
  (fun n=>by rw [F85.L2.succ,ite'_f (lt_f (by omega))]) k hk
 rcases this with ⟨i,x,hx,hst,e⟩ | ⟨hst,e⟩
 ·rw [show F85.L2 k (C k) k (I1 zs) v (zs.length:Int) 0=_ from e]
  simp only [zj,zw,ze]
  have:v=x:=by simpa using hst
  subst this
  exact zar (by rw [decide_eq_true (List.mem_of_getElem? hx)];simp)
 ·rw [show F85.L2 k (C k) k (I1 zs) v (zs.length:Int) 0=_ from e]
  simp only [zj,zw,ze]
  refine zar ?_
  rw [decide_eq_false (p:=v∈zs) (fun h=>?_)]
  ·rfl
  ·obtain ⟨i,hi⟩:=List.mem_iff_getElem?.1 h
   have:=hst i v hi
   simp at this
theorem c163 (zs:List Int) (f:FuncId) (caps:Ovi.Rows) (p:Int→Bool) (hk:zs.length < k) (hz:zs.length≤maxLen) (hp:∀ z∈zs,C k f (.d (.int .i64 z)::caps.map fun c=>.cap c 0)=bo (p z)):C (k+2) 163 [.d (.list 1 (I1 zs)),.d (.fn f caps)]=bo (zs.any p):=by
 rw [F163.run,F220.run,zl]
 have:=zak (xs:=zs) (L:=fun n i=>F220.L2 k (C k) n (I1 zs) f caps (zs.length:Int) i) (stop:=fun _ x=>p x) (hit:=fun i=>some [(false,[.d (.int .i64 (i:Int))])]) (fin:=some [(false,[.d (.int .i64 (-1))])])
  (fun n i x hx=>by
   have hi:=(List.getElem?_eq_some_iff.1 hx).1
   rw [F220.L2.succ,zl,ite'_t (lt_t hi),ite'_t (zn hi)]
   simp only [Int.toNat_natCast,zG (I1_get' hx),List.getElem?_cons_zero,Option.bind_some,zx,ze]
   rw [zy hi hz]
   have:=hp x (List.mem_of_getElem? hx)
   simp only [List.append_eq,List.nil_append] at this ⊢
   rw [this,bB];rfl)
  (fun n=>by rw [F220.L2.succ,ite'_f (lt_f (by omega))]) k hk
 rcases this with ⟨i,x,hx,hst,e⟩ | ⟨hst,e⟩
 ·rw [show F220.L2 k (C k) k (I1 zs) f caps (zs.length:Int) 0=_ from e]
  simp only [zj,zw,ze]
  exact zar (by rw [List.any_eq_true.2 ⟨x,List.mem_of_getElem? hx,hst⟩];simp)
 ·rw [show F220.L2 k (C k) k (I1 zs) f caps (zs.length:Int) 0=_ from e]
  simp only [zj,zw,ze]
  refine zar ?_
  rw [List.any_eq_false.2 (fun x hx=>?_)]
  ·rfl
  ·obtain ⟨i,hi⟩:=List.mem_iff_getElem?.1 hx
   simpa using hst i x hi
theorem c217 (xs:List Atom) (f:FuncId) (caps:Ovi.Rows) (p:Atom→Bool) (hk:xs.length < k) (hz:xs.length≤maxLen) (hp:∀ x∈xs,C k f (.agg [.d (.int .i64 x.1),.d (.list 1 (I1 x.2))]::caps.map fun c=>.cap c 0)=bo (p x)):C (k+2) 217 [.d (.list 2 (A1 xs)),.d (.fn f caps)]=bo (xs.any p):=by
 rw [F217.run,F254.run,zo]
 have:=zak (xs:=xs) (L:=fun n i=>F254.L2 k (C k) n (A1 xs) f caps (xs.length:Int) i) (stop:=fun _ x=>p x) (hit:=fun i=>some [(false,[.d (.int .i64 (i:Int))])]) (fin:=some [(false,[.d (.int .i64 (-1))])])
  (fun n i x hx=>by
   have hi:=(List.getElem?_eq_some_iff.1 hx).1
   rw [F254.L2.succ,zo,ite'_t (lt_t hi),ite'_t (zn hi)]
   simp only [Int.toNat_natCast,zG (zaF hx),zZ (zaF hx),List.getElem?_cons_zero,List.getElem?_cons_succ,Option.bind_some,zx,zL,ze,zh]
   rw [zy hi hz]
   have:=hp x (List.mem_of_getElem? hx)
   simp only [List.append_eq,List.nil_append] at this ⊢
   rw [this,bB];rfl)
  (fun n=>by rw [F254.L2.succ,ite'_f (lt_f (by omega))]) k hk
 rcases this with ⟨i,x,hx,hst,e⟩ | ⟨hst,e⟩
 ·rw [show F254.L2 k (C k) k (A1 xs) f caps (xs.length:Int) 0=_ from e]
  simp only [zj,zw,ze]
  exact zar (by rw [List.any_eq_true.2 ⟨x,List.mem_of_getElem? hx,hst⟩];simp)
 ·rw [show F254.L2 k (C k) k (A1 xs) f caps (xs.length:Int) 0=_ from e]
  simp only [zj,zw,ze]
  refine zar ?_
  rw [List.any_eq_false.2 (fun x hx=>?_)]
  ·rfl
  ·obtain ⟨i,hi⟩:=List.mem_iff_getElem?.1 hx
   simpa using hst i x hi
def Rl:Ty:=.list [.str,.int .i64,.bool]
def zcx (s:List UInt8) (n:Int):Bool:=decide (s.length=1)&&(decide (za7 s 0 ≥ 97)&&(decide (za7 s 0≤122)&&decide (1≤n∧n≤3)))
theorem c227 (s:List UInt8) (n:Int) (b:Bool):C (k+2) 227 [.agg [.d (.str s),.d (.int .i64 n),.d (.bool b)]]=bo (zcx s n):=by
 rw [F227.run]
 by_cases h:s.length=1
 ·obtain ⟨h1,h2⟩:=zpd s h
  rw [ite'_t (by simp;omega),h1,h2,c73,bB]
  unfold zcx
  rw [decide_eq_true h]
  cases decide (za7 s 0 ≥ 97)<;>cases decide (za7 s 0≤122)<;>rfl
 ·rw [ite'_f (by simp;omega)]
  unfold zcx
  rw [decide_eq_false h]
  rfl
theorem c210 (s:List UInt8) (n:Int) (b:Bool):C (k+2) 210 [.agg [.d (.str s),.d (.int .i64 n),.d (.bool b)]]=bo (zcx s n):=by
 rw [F210.run]
 by_cases h:s.length=1
 ·rw [ite'_t (by simp;omega),ite'_t (by simp [inR];omega),ite'_t (b:=inR 0 s.length) (by simp [inR];omega),c68,bB]
  unfold zcx
  rw [decide_eq_true h]
  cases decide (za7 s 0 ≥ 97)<;>cases decide (za7 s 0≤122)<;>rfl
 ·rw [ite'_f (by simp;omega)]
  unfold zcx
  rw [decide_eq_false h]
  rfl
def ar (a:Ovi.Rows) (r:Int):Int:=(zm .i64 a r.toNat 1).getD (-1)
theorem znA {a:Ovi.Rows} (ha:Fit Rl (.list 3 a)):∃ b,(b=true→∀ r:Int,0≤r→r < (a.length:Int)→ar a r≤3)∧∀ k,a.length < k→C (k+3) 172 [.d (.list 3 a)]=bo b∧C (k+3) 146 [.d (.list 3 a)]=bo b:=by
 have hlen:=ha.len
 have key:∀ (m i:Nat),i+m=a.length→∃ b,(b=true→∀ r:Int,(i:Int)≤r→r < (a.length:Int)→ar a r≤3)∧∀ k n,m < n→F172.L2 (k+2) (C (k+2)) n a a (a.length:Int) (i:Int)=bo b∧F146.L2 (k+2) (C (k+2)) n a (i:Int)=bo b:=by
  intro m
  induction m with
  | zero =>
   intro i hm
   refine ⟨decide ((a.length:Int)≤6),fun _ r h1 h2=>(by omega),fun k n hn=>?_⟩
   obtain ⟨n,rfl⟩:∃ j,n=j+1:=⟨n - 1,by omega⟩
   constructor
   ·rw [F172.L2.succ,ite'_f (lt_f (by omega))];rfl
   ·rw [F146.L2.succ,ite'_f (lt_f (by omega))];rfl
  | succ m ih =>
   intro i hm
   have hi:i < a.length:=by omega
   obtain ⟨row,hr,hfr,_⟩:=ha.row hi
   obtain ⟨d0,r0,rfl,f0,h1⟩:=Fits.cons hfr
   obtain ⟨d1,r1,rfl,f1,h1⟩:=Fits.cons h1
   obtain ⟨d2,r2,rfl,f2,h1⟩:=Fits.cons h1
   obtain rfl:=Fits.nil h1
   obtain ⟨s,rfl,hs⟩:=f0.str
   obtain ⟨x,rfl,_⟩:=f1.int
   obtain ⟨b,rfl⟩:=f2.bool
   obtain ⟨bb,ih3,ih⟩:=ih (i+1) (by omega)
   have har:zcx s x=true→bb=true→∀ r:Int,(i:Int)≤r→r < (a.length:Int)→ar a r≤3:=by
    intro hv hbb r h1 h2
    by_cases hri:r=(i:Int)
    ·subst hri
     have:ar a (i:Int)=x:=by unfold ar;rw [Int.toNat_natCast,zG hr];simp [zx]
     unfold zcx at hv
     simp only [Bool.and_eq_true,decide_eq_true_eq] at hv
     omega
    ·exact ih3 hbb r (by omega) h2
   have step:∀ k n,F172.L2 (k+2) (C (k+2)) (n+1) a a (a.length:Int) (i:Int)=ite' (!zcx s x) (bo false) (ite' (decide ((i:Int) > 0)) (ite' (inR (IntKind.i64.wrap ((i:Int) - 1)) a.length) (zbg (zbh a (IntKind.i64.wrap ((i:Int) - 1)).toNat 0) fun s13=>ite' (zaR s s13||s==s13) (bo false) (F172.L2 (k+2) (C (k+2)) n a a (a.length:Int) ((i+1:Nat):Int))) none) (F172.L2 (k+2) (C (k+2)) n a a (a.length:Int) ((i+1:Nat):Int))) ∧
     F146.L2 (k+2) (C (k+2)) (n+1) a (i:Int)=ite' (!zcx s x) (bo false) (ite' (decide ((i:Int) > 0)) (ite' (inR (IntKind.i64.wrap ((i:Int) - 1)) a.length) (zbg (zbh a (IntKind.i64.wrap ((i:Int) - 1)).toNat 0) fun s11=>ite' (!zaR s11 s) (bo false) (F146.L2 (k+2) (C (k+2)) n a ((i+1:Nat):Int))) none) (F146.L2 (k+2) (C (k+2)) n a ((i+1:Nat):Int))):=by
    intro k n
    rw [F172.L2.succ,F146.L2.succ,ite'_t (lt_t hi),ite'_t (zn hi),ite'_t (lt_t hi),ite'_t (zn hi)]
    simp only [Int.toNat_natCast,zG hr,zat hr,zaq hr,List.getElem?_cons_zero,List.getElem?_cons_succ,Option.bind_some,zx,zR,zQ,ze,zE,zu]
    rw [c227,c210,zy hi hlen,bB,bB]
    refine ⟨rfl,?_⟩
    simp only [show ∀ x y:Option Res,ite' (inR (i:Int) a.length) x y=x from fun x y=>ite'_t (zn hi)]
    rfl
   cases hv:zcx s x with
   | false =>
    refine ⟨false,fun h=>(by cases h),fun k n hn=>?_⟩
    obtain ⟨n,rfl⟩:∃ j,n=j+1:=⟨n - 1,by omega⟩
    obtain ⟨e1,e2⟩:=step k n
    rw [e1,e2,hv]
    exact ⟨rfl,rfl⟩
   | true =>
    by_cases h0:i=0
    ·subst h0
     refine ⟨bb,har hv,fun k n hn=>?_⟩
     obtain ⟨n,rfl⟩:∃ j,n=j+1:=⟨n - 1,by omega⟩
     obtain ⟨e1,e2⟩:=step k n
     rw [e1,e2,hv]
     exact ih k n (by omega)
    ·have hw:IntKind.i64.wrap ((i:Int) - 1)=((i - 1:Nat):Int):=by
      unfold maxLen at hlen
      rw [zad (by omega) (by omega)];omega
     obtain ⟨row',hr',hfr',_⟩:=ha.row (i:=i - 1) (by omega)
     obtain ⟨d0',r0',rfl,f0',h1'⟩:=Fits.cons hfr'
     obtain ⟨s',rfl,hs'⟩:=f0'.str
     have hcs:zbh a ((i - 1:Nat):Int).toNat 0=some s':=by rw [Int.toNat_natCast,zat hr'];rfl
     have hgt:decide ((i:Int) > 0)=true:=by simp;omega
     have hin:inR ((i - 1:Nat):Int) a.length=true:=zn (by omega)
     cases hl:zaR s' s with
     | true =>
      refine ⟨bb,har hv,fun k n hn=>?_⟩
      obtain ⟨n,rfl⟩:∃ j,n=j+1:=⟨n - 1,by omega⟩
      obtain ⟨e1,e2⟩:=step k n
      rw [e1,e2,hv,hw,hgt,hin,hcs]
      simp only [zE]
      rw [zcL,hl]
      exact ih k n (by omega)
     | false =>
      refine ⟨false,fun h=>(by cases h),fun k n hn=>?_⟩
      obtain ⟨n,rfl⟩:∃ j,n=j+1:=⟨n - 1,by omega⟩
      obtain ⟨e1,e2⟩:=step k n
      rw [e1,e2,hv,hw,hgt,hin,hcs]
      simp only [zE]
      rw [zcL,hl]
      exact ⟨rfl,rfl⟩
 obtain ⟨b,hb3,hb⟩:=key a.length 0 (by omega)
 refine ⟨b,fun h r h1 h2=>hb3 h r (by omega) h2,fun k hk=>?_⟩
 rw [F172.run,F146.run]
 exact hb k (k+2) (by omega)
theorem rels {a:Ovi.Rows} (ha:Fit Rl (.list 3 a)):∃ b,∀ k,a.length < k→C (k+3) 172 [.d (.list 3 a)]=bo b∧C (k+3) 146 [.d (.list 3 a)]=bo b :=
 let ⟨b,_,h⟩:=znA ha;⟨b,h⟩
theorem atoms {a:Ovi.Rows} (ha:Fit Rl (.list 3 a)) (x:Atom) (hx2:x.2.length≤maxLen):∃ b,(b=true→(0≤x.1∧x.1 < (a.length:Int))∧(x.2.length:Int)=ar a x.1∧∀ t∈x.2, -10≤t∧t≤4)∧∀ k,a.length < k→x.2.length < k→C (k+5) 219 [.d (.list 3 a),.agg [.d (.int .i64 x.1),.d (.list 1 (I1 x.2))]]=bo b∧C (k+5) 156 [.d (.list 3 a),.agg [.d (.int .i64 x.1),.d (.list 1 (I1 x.2))]]=bo b:=by
 have hlen:=ha.len
 unfold maxLen at hlen
 obtain ⟨b,hb⟩:=rels ha
 have e:∀ k,a.length < k→C (k+4) 172 [.d (.list 3 a)]=bo b∧C (k+4) 146 [.d (.list 3 a)]=bo b:=fun k hk=>hb (k+1) (by omega)
 cases b with
 | false =>
  refine ⟨false,fun h=>(by cases h),fun k hk hx=>?_⟩
  rw [F219.run,F156.run,(e k hk).1,(e k hk).2,bB,bB]
  exact ⟨rfl,rfl⟩
 | true =>
  by_cases hr:0≤x.1∧x.1≤(a.length:Int) - 1
  ·obtain ⟨i,hi⟩:∃ i:Nat,x.1=i:=⟨x.1.toNat,by omega⟩
   have hia:i < a.length:=by omega
   obtain ⟨row,hrow,hfr,_⟩:=ha.row hia
   obtain ⟨d0,r0,rfl,f0,h1⟩:=Fits.cons hfr
   obtain ⟨d1,r1,rfl,f1,h1⟩:=Fits.cons h1
   obtain ⟨n,rfl,_⟩:=f1.int
   have hcn:zm .i64 a ((i:Int)).toNat 1=some n:=by rw [Int.toNat_natCast,zG hrow];simp [zx]
   by_cases hn:((I1 x.2).length:Int)=n
   ·refine ⟨!(x.2.any fun t=>!decide (-10≤t∧t≤4)),fun h=>⟨by omega,by unfold ar;rw [hi,hcn];rw [zl] at hn;exact hn,fun t ht=>by
     simp only [Bool.not_eq_true',List.any_eq_false,Bool.not_eq_true,decide_eq_false_iff_not,Decidable.not_not] at h
     exact h t ht⟩,fun k hk hx=>?_⟩
    rw [F219.run,F156.run,(e k hk).1,(e k hk).2,bB,bB,ite'_nt,ite'_nt,c73,c68,bB,bB,zad (by omega) (by omega),decide_eq_true hr,ite'_nt,ite'_nt,hi,ite'_t (zn hia),ite'_t (zn hia),hcn]
    simp only [ze]
    rw [ite'_f (by simpa using hn),ite'_f (b:=((I1 x.2).length:Int) != n) (by simpa using hn)]
    have e69:=c163 (k:=k+2) x.2 255 [] (fun t=>!decide (-10≤t∧t≤4)) (by omega) hx2 (fun z _=>by
     rw [List.map_nil,F255.run,c73 k,bB];rfl)
    rw [e69,bB]
    refine ⟨rfl,?_⟩
    have:=zbc (xs:=x.2) (L:=fun m j=>F156.L4 (k+4) (C (k+4)) m j (i:Int) (I1 x.2)) (stop:=fun t=>!decide (-10≤t∧t≤4)) (hit:=bo false) (fin:=bo true)
     (fun m j t ht=>by
      have hj:=(List.getElem?_eq_some_iff.1 ht).1
      rw [F156.L4.succ,zl,ite'_t (lt_t hj),ite'_t (zn hj)]
      simp only [Int.toNat_natCast,zG (I1_get' ht),List.getElem?_cons_zero,Option.bind_some,zx,ze]
      rw [c68,bB,zy hj hx2];rfl)
     (fun m=>by rw [F156.L4.succ,zl,ite'_f (lt_f (by omega))];rfl) (k+4) (by omega)
    rw [show F156.L4 (k+4) (C (k+4)) (k+4) 0 (i:Int) (I1 x.2)=_ from this]
    cases x.2.any (fun t=>!decide (-10≤t∧t≤4))<;>rfl
   ·refine ⟨false,fun h=>(by cases h),fun k hk hx=>?_⟩
    rw [F219.run,F156.run,(e k hk).1,(e k hk).2,bB,bB,ite'_nt,ite'_nt,c73,c68,bB,bB,zad (by omega) (by omega),decide_eq_true hr,ite'_nt,ite'_nt,hi,ite'_t (zn hia),ite'_t (zn hia),hcn]
    simp only [ze]
    rw [ite'_t (by simpa using hn),ite'_t (b:=((I1 x.2).length:Int) != n) (by simpa using hn)]
    exact ⟨rfl,rfl⟩
  ·refine ⟨false,fun h=>(by cases h),fun k hk hx=>?_⟩
   rw [F219.run,F156.run,(e k hk).1,(e k hk).2,bB,bB,ite'_nt,ite'_nt,c73,c68,bB,bB,zad (by omega) (by omega),decide_eq_false hr]
   exact ⟨rfl,rfl⟩
end Go.Proofs.YthicohakeljdcaaGreat.Q
namespace Go.Proofs.YthicohakeljdcaaGreat.Q
open Go Ovi
variable {k:Nat}
def zY (xs:List Atom) (z:Int):Prop:=0≤z∧∃ x∈xs,z∈x.2
def zF (xs:List Atom):Nat:=(xs.map fun x=>x.2.length).sum
theorem zbp {xs:List Atom} {i:Nat} {x:Atom} (h:xs[i]? = some x):zF (xs.take i)+x.2.length=zF (xs.take (i+1)):=by
 obtain ⟨hi,e⟩:=List.getElem?_eq_some_iff.1 h
 unfold zF
 rw [List.take_succ_eq_append_getElem hi,e]
 simp
theorem zbq (xs:List Atom) (i:Nat):zF (xs.take i)≤zF xs:=by
 have:zF xs=zF (xs.take i)+zF (xs.drop i):=by
  unfold zF
  rw [← List.sum_append,← List.map_append,List.take_append_drop]
 omega
theorem zc5 {xs:List Atom} {i:Nat} {x:Atom} (h:xs[i]? = some x) (z:Int):zY (xs.take (i+1)) z↔zY (xs.take i) z∨(0≤z∧z∈x.2):=by
 obtain ⟨hi,e⟩:=List.getElem?_eq_some_iff.1 h
 unfold zY
 rw [List.take_succ_eq_append_getElem hi,e]
 simp only [List.mem_append,List.mem_singleton]
 constructor
 ·rintro ⟨h0,y,hy | rfl,hz⟩
  ·exact .inl ⟨h0,y,hy,hz⟩
  ·exact .inr ⟨h0,hz⟩
 ·rintro (⟨h0,y,hy,hz⟩ | ⟨h0,hz⟩)
  ·exact ⟨h0,y,.inl hy,hz⟩
  ·exact ⟨h0,x,.inr rfl,hz⟩
theorem c161 (xs:List Atom) (hk:zF xs+xs.length < k) (hs:zF xs+xs.length≤1048576):∃ vs,C (k+1) 161 [.d (.list 2 (A1 xs))]=some [(false,[.row 3 1 (I1 vs)])]∧(∀ z,z∈vs↔zY xs z)∧vs.length≤zF xs:=by
 rw [F161.run,zo]
 have hmax:(1048576:Nat)≤maxLen:=by decide
 have inner:∀ (i:Nat) (x:Atom),xs[i]? = some x→∀ (m j n k3:Nat) (acc:List Int),j+m=x.2.length→m < n→acc.length≤zF (xs.take i)+j→(∀ z,z∈acc↔zY (xs.take i) z∨(0≤z∧z∈x.2.take j)) →
   ∃ acc',F161.L6 k (C k) k3 n (A1 xs) (xs.length:Int) (i:Int) (I1 x.2) (x.2.length:Int) (j:Int) (I1 acc)=F161.L3 k (C k) k3 (A1 xs) (xs.length:Int) ((i+1:Nat):Int) (I1 acc')∧acc'.length≤zF (xs.take (i+1))∧∀ z,z∈acc'↔zY (xs.take (i+1)) z:=by
  intro i x hx m
  have hi:=(List.getElem?_eq_some_iff.1 hx).1
  have hta:=zbp hx
  have htl:=zbq xs (i+1)
  induction m with
  | zero =>
   intro j n k3 acc hm hn ha hmem
   obtain ⟨n,rfl⟩:∃ j,n=j+1:=⟨n - 1,by omega⟩
   obtain rfl:j=x.2.length:=by omega
   refine ⟨acc,?_,by omega,fun z=>?_⟩
   ·rw [F161.L6.succ,ite'_f (lt_f (by omega)),zy hi (m:=xs.length) (by omega)]
   ·rw [hmem z,zc5 hx,List.take_length]
  | succ m ih =>
   intro j n k3 acc hm hn ha hmem
   obtain ⟨n,rfl⟩:∃ j,n=j+1:=⟨n - 1,by omega⟩
   have hj:j < x.2.length:=by omega
   have hz:=List.getElem?_eq_getElem hj
   rw [F161.L6.succ,ite'_t (lt_t hj),zl,ite'_t (zn hj)]
   simp only [Int.toNat_natCast,zG (I1_get' hz),List.getElem?_cons_zero,Option.bind_some,zx,ze]
   rw [zy hj (m:=x.2.length) (by omega)]
   have htk:∀ z,z∈x.2.take (j+1)↔z∈x.2.take j∨z=x.2[j]:=by
    intro z
    rw [List.take_succ_eq_append_getElem hj]
    simp only [List.mem_append,List.mem_singleton]
   by_cases h0:0≤x.2[j]
   ·rw [ite'_t (by simpa using h0),ite'_t (zS (by simp [zl];omega))]
    have e:I1 acc++[[.int .i64 x.2[j]]]=I1 (acc++[x.2[j]]):=by simp [I1]
    rw [e]
    refine ih (j+1) n k3 _ (by omega) (by omega) (by simp;omega) (fun z=>?_)
    rw [List.mem_append,List.mem_singleton,hmem z,htk z]
    constructor
    ·rintro ((h | h) | h)
     ·exact .inl h
     ·exact .inr ⟨h.1,.inl h.2⟩
     ·exact .inr ⟨h▸h0,.inr h⟩
    ·rintro (h | ⟨h1,h | h⟩)
     ·exact .inl (.inl h)
     ·exact .inl (.inr ⟨h1,h⟩)
     ·exact .inr h
   ·rw [ite'_f (by simpa using h0)]
    refine ih (j+1) n k3 _ (by omega) (by omega) (by omega) (fun z=>?_)
    rw [hmem z,htk z]
    constructor
    ·rintro (h | h)
     ·exact .inl h
     ·exact .inr ⟨h.1,.inl h.2⟩
    ·rintro (h | ⟨h1,h | h⟩)
     ·exact .inl h
     ·exact .inr ⟨h1,h⟩
     ·exact absurd (h▸h1) h0
 have outer:∀ (m i n:Nat) (acc:List Int),i+m=xs.length→m < n→acc.length≤zF (xs.take i)→(∀ z,z∈acc↔zY (xs.take i) z) →
   ∃ vs,F161.L3 k (C k) n (A1 xs) (xs.length:Int) (i:Int) (I1 acc)=some [(false,[.row 3 1 (I1 vs)])]∧(∀ z,z∈vs↔zY xs z)∧vs.length≤zF xs:=by
  intro m
  induction m with
  | zero =>
   intro i n acc hm hn ha hmem
   obtain ⟨n,rfl⟩:∃ j,n=j+1:=⟨n - 1,by omega⟩
   obtain rfl:i=xs.length:=by omega
   rw [List.take_length] at ha hmem
   obtain ⟨k,rfl⟩:∃ j,k=j+1:=⟨k - 1,by omega⟩
   have e1:C (k+1) 215 [.var 0 0,.d (.int .i64 3),.d (.list 1 (I1 acc))]=some [(false,[.row 3 1 (I1 (zN acc))])]:=by
    show zcA _=_
    unfold zcA zbH
    simp only [zbe]
    rw [show Nat.ble acc.length 1099511627776=true from Nat.ble_eq_true_of_le (by omega)]
    rfl
   have hsl:(zN acc).length=acc.length:=by simp [zN]
   have e2:C (k+1) 216 [.var 0 0,.d (.int .i64 3),.d (.list 1 (I1 (zN acc)))]=some [(false,[.row 3 1 (I1 (Lib.compact (zN acc)))]),(true,[])]:=by
    show za8 _=_
    unfold za8 zbH
    simp only [zbe]
    rw [show Nat.ble (zN acc).length 1099511627776=true from Nat.ble_eq_true_of_le (by omega)]
    rfl
   refine ⟨Lib.compact (zN acc),?_,fun z=>?_,?_⟩
   ·rw [F161.L3.succ,ite'_f (lt_f (by omega)),e1]
    simp only [zj,zt,zh]
    rw [e2]
    rfl
   ·rw [zcI,zcu,hmem z]
   ·have:=zcG (zN acc)
    omega
  | succ m ih =>
   intro i n acc hm hn ha hmem
   obtain ⟨n,rfl⟩:∃ j,n=j+1:=⟨n - 1,by omega⟩
   have hi:i < xs.length:=by omega
   have hx:=List.getElem?_eq_getElem hi
   rw [F161.L3.succ,zo,ite'_t (lt_t hi),ite'_t (zn hi)]
   simp only [Int.toNat_natCast,zG (zaF hx),zZ (zaF hx),List.getElem?_cons_zero,List.getElem?_cons_succ,Option.bind_some,zx,zL,ze,zh]
   have hta:=zbp hx
   have htl:=zbq xs (i+1)
   rw [zl]
   obtain ⟨acc',e,h1,h2⟩:=inner i _ hx (xs[i]).2.length 0 k n acc (by omega) (by omega) (by omega) (fun z=>by simp [hmem z])
   rw [show ((0:Nat):Int)=0 from rfl] at e
   rw [e]
   exact ih (i+1) n acc' (by omega) (by omega) h1 h2
 have:=outer xs.length 0 k [] (by omega) (by omega) (by simp) (fun z=>by simp [zY])
 exact this
theorem c147 (zs:List Int) (v:Int) (hk:zs.length < k) (hz:zs.length≤1048576):∃ r ws,C (k+1) 147 [.d (.list 1 (I1 zs)),.d (.int .i64 v)]=some r∧resL 1 1 false 1 r 0 0=some (I1 ws)∧(∀ z,z∈ws↔z∈zs∨z=v)∧ws.length≤zs.length+1:=by
 rw [F147.run]
 have hmax:(1048576:Nat)≤maxLen:=by decide
 have ins:∀ i:Nat,i≤zs.length→∃ r ws,(ite' (inS (i:Int) ((I1 zs).length:Int) (I1 zs).length) (ite' (fits (([[D.int .i64 v]]:Ovi.Rows).length+((I1 zs).drop (i:Int).toNat).length)) (ite' (inS (0:Int) (i:Int) (I1 zs).length) (ite' (fits ((I1 zs).take (i:Int).toNat).length) (ite' (fits (((I1 zs).take (i:Int).toNat).length+List.length ([[D.int .i64 v]]++(I1 zs).drop (i:Int).toNat))) (some ([(false,[RL.row 3 1 ((I1 zs).take (i:Int).toNat++([[D.int .i64 v]]++(I1 zs).drop (i:Int).toNat))])]:Res)) none) none) none) none) none)=some r∧resL 1 1 false 1 r 0 0=some (I1 ws)∧(∀ z,z∈ws↔z∈zs∨z=v)∧ws.length≤zs.length+1:=by
  intro i hi
  rw [zl,ite'_t (by simp [inS];omega),ite'_t (zS (by simp [zl];omega)),ite'_t (by simp [inS];omega),ite'_t (zS (by simp [zl];omega)),ite'_t (zS (by simp [zl];omega))]
  refine ⟨_,zs.take i++v::zs.drop i,rfl,?_,fun z=>?_,by simp;omega⟩
  ·rw [zkj]
   simp [I1]
  ·have:z∈zs↔z∈zs.take i∨z∈zs.drop i:=by rw [← List.mem_append,List.take_append_drop]
   rw [this,List.mem_append,List.mem_cons]
   constructor
   ·rintro (h | h | h)
    ·exact .inl (.inl h)
    ·exact .inr h
    ·exact .inl (.inr h)
   ·rintro ((h | h) | h)
    ·exact .inl h
    ·exact .inr (.inr h)
    ·exact .inr (.inl h)
 have main:∀ (m i n:Nat),i+m=zs.length→m < n→∃ r ws,F147.L2 k (C k) n (I1 zs) v (i:Int)=some r∧resL 1 1 false 1 r 0 0=some (I1 ws)∧(∀ z,z∈ws↔z∈zs∨z=v)∧ws.length≤zs.length+1:=by
  intro m
  induction m with
  | zero =>
   intro i n hm hn
   obtain ⟨n,rfl⟩:∃ j,n=j+1:=⟨n - 1,by omega⟩
   obtain ⟨r,ws,h1,h2⟩:=ins i (by omega)
   refine ⟨r,ws,?_,h2⟩
   rw [F147.L2.succ]
   rw [ite'_f (b:=decide ((i:Int) < ((I1 zs).length:Int))) (by rw [zl];exact lt_f (by omega))]
   rw [ite'_f (b:=decide ((i:Int) < ((I1 zs).length:Int))) (by rw [zl];exact lt_f (by omega))]
   exact h1
  | succ m ih =>
   intro i n hm hn
   obtain ⟨n,rfl⟩:∃ j,n=j+1:=⟨n - 1,by omega⟩
   have hi:i < zs.length:=by omega
   have hx:=List.getElem?_eq_getElem hi
   obtain ⟨r,ws,h1,h2⟩:=ins i (by omega)
   rw [F147.L2.succ]
   rw [ite'_t (b:=decide ((i:Int) < ((I1 zs).length:Int))) (by rw [zl];exact lt_t hi)]
   rw [ite'_t (b:=inR (i:Int) (I1 zs).length) (by rw [zl];exact zn hi)]
   rw [show zm .i64 (I1 zs) (i:Int).toNat 0=some zs[i] by rw [Int.toNat_natCast,zG (I1_get' hx)];rfl]
   simp only [ze]
   by_cases hlt:zs[i] < v
   ·rw [ite'_t (by simpa using hlt),zy hi (m:=zs.length) (by omega)]
    exact ih (i+1) n (by omega) (by omega)
   ·rw [ite'_f (b:=decide (zs[i] < v)) (by simpa using hlt)]
    rw [ite'_t (b:=decide ((i:Int) < ((I1 zs).length:Int))) (by rw [zl];exact lt_t hi)]
    rw [ite'_t (b:=inR (i:Int) (I1 zs).length) (by rw [zl];exact zn hi)]
    by_cases heq:zs[i]=v
    ·rw [ite'_t (b:=zs[i]==v) (by simpa using heq)]
     refine ⟨_,zs,rfl,zbI _ _,fun z=>⟨.inl,?_⟩,by omega⟩
     rintro (h | h)
     ·exact h
     ·rw [h,← heq];exact List.getElem_mem hi
    ·rw [ite'_f (b:=zs[i]==v) (by simpa using heq)]
     exact ⟨r,ws,h1,h2⟩
 have:=main zs.length 0 k (by omega) (by omega)
 exact this
theorem c155 (xs:List Atom) (hk:zF xs+xs.length < k) (hs:zF xs+xs.length≤1048576):∃ vs,C (k+2) 155 [.d (.list 2 (A1 xs))]=some [(false,[.d (.list 1 (I1 vs))])]∧(∀ z,z∈vs↔zY xs z)∧vs.length≤zF xs:=by
 rw [F155.run]
 have hmax:(1048576:Nat)≤maxLen:=by decide
 have inner:∀ (i:Nat) (x:Atom),xs[i]? = some x→∀ (m j n k3:Nat) (acc:List Int),j+m=x.2.length→m < n→acc.length≤zF (xs.take i)+j→(∀ z,z∈acc↔zY (xs.take i) z∨(0≤z∧z∈x.2.take j)) →
   ∃ acc',F155.L6 (k+1) (C (k+1)) k3 n (A1 xs) (I1 acc) (i:Int) (j:Int)=F155.L3 (k+1) (C (k+1)) k3 (A1 xs) (I1 acc') ((i+1:Nat):Int)∧acc'.length≤zF (xs.take (i+1))∧∀ z,z∈acc'↔zY (xs.take (i+1)) z:=by
  intro i x hx m
  have hi:=(List.getElem?_eq_some_iff.1 hx).1
  have hta:=zbp hx
  have htl:=zbq xs (i+1)
  have hcell:zr 1 (A1 xs) ((i:Int)).toNat 1=some (I1 x.2):=by rw [Int.toNat_natCast,zZ (zaF hx)];rfl
  have hin:inR (i:Int) (A1 xs).length=true:=by rw [zo];exact zn hi
  induction m with
  | zero =>
   intro j n k3 acc hm hn ha hmem
   obtain ⟨n,rfl⟩:∃ j,n=j+1:=⟨n - 1,by omega⟩
   obtain rfl:j=x.2.length:=by omega
   refine ⟨acc,?_,by omega,fun z=>?_⟩
   ·rw [F155.L6.succ,ite'_t hin,hcell,zh,zl,ite'_f (lt_f (by omega)),zy hi (m:=xs.length) (by omega)]
   ·rw [hmem z,zc5 hx,List.take_length]
  | succ m ih =>
   intro j n k3 acc hm hn ha hmem
   obtain ⟨n,rfl⟩:∃ j,n=j+1:=⟨n - 1,by omega⟩
   have hj:j < x.2.length:=by omega
   have hz:=List.getElem?_eq_getElem hj
   have hcz:zm .i64 (I1 x.2) ((j:Int)).toNat 0=some x.2[j]:=by rw [Int.toNat_natCast,zG (I1_get' hz)];rfl
   have hinj:inR (j:Int) (I1 x.2).length=true:=by rw [zl];exact zn hj
   rw [F155.L6.succ,ite'_t hin,hcell,zh,ite'_t (b:=decide ((j:Int) < ((I1 x.2).length:Int))) (by rw [zl];exact lt_t hj),ite'_t hin]
   simp only [zh]
   rw [ite'_t hinj,hcz]
   simp only [ze]
   rw [zy hj (m:=x.2.length) (by omega)]
   have htk:∀ z,z∈x.2.take (j+1)↔z∈x.2.take j∨z=x.2[j]:=by
    intro z
    rw [List.take_succ_eq_append_getElem hj]
    simp only [List.mem_append,List.mem_singleton]
   by_cases h0:0≤x.2[j]
   ·obtain ⟨r,ws,e1,e2,e3,e4⟩:=c147 (k:=k) acc x.2[j] (by omega) (by omega)
    rw [ite'_t (by simpa using h0),ite'_t hin,ite'_t hinj,e1]
    simp only [zj]
    rw [e2,zh]
    refine ih (j+1) n k3 _ (by omega) (by omega) (by omega) (fun z=>?_)
    rw [e3 z,hmem z,htk z]
    constructor
    ·rintro ((h | h) | h)
     ·exact .inl h
     ·exact .inr ⟨h.1,.inl h.2⟩
     ·exact .inr ⟨h▸h0,.inr h⟩
    ·rintro (h | ⟨h1,h | h⟩)
     ·exact .inl (.inl h)
     ·exact .inl (.inr ⟨h1,h⟩)
     ·exact .inr h
   ·rw [ite'_f (by simpa using h0)]
    refine ih (j+1) n k3 _ (by omega) (by omega) (by omega) (fun z=>?_)
    rw [hmem z,htk z]
    constructor
    ·rintro (h | h)
     ·exact .inl h
     ·exact .inr ⟨h.1,.inl h.2⟩
    ·rintro (h | ⟨h1,h | h⟩)
     ·exact .inl h
     ·exact .inr ⟨h1,h⟩
     ·exact absurd (h▸h1) h0
 have outer:∀ (m i n:Nat) (acc:List Int),i+m=xs.length→m < n→acc.length≤zF (xs.take i)→(∀ z,z∈acc↔zY (xs.take i) z) →
   ∃ vs,F155.L3 (k+1) (C (k+1)) n (A1 xs) (I1 acc) (i:Int)=some [(false,[.d (.list 1 (I1 vs))])]∧(∀ z,z∈vs↔zY xs z)∧vs.length≤zF xs:=by
  intro m
  induction m with
  | zero =>
   intro i n acc hm hn ha hmem
   obtain ⟨n,rfl⟩:∃ j,n=j+1:=⟨n - 1,by omega⟩
   obtain rfl:i=xs.length:=by omega
   rw [List.take_length] at ha hmem
   exact ⟨acc,by rw [F155.L3.succ,zo,ite'_f (lt_f (by omega))],hmem,ha⟩
  | succ m ih =>
   intro i n acc hm hn ha hmem
   obtain ⟨n,rfl⟩:∃ j,n=j+1:=⟨n - 1,by omega⟩
   have hi:i < xs.length:=by omega
   have hx:=List.getElem?_eq_getElem hi
   have hta:=zbp hx
   have htl:=zbq xs (i+1)
   rw [F155.L3.succ,zo,ite'_t (lt_t hi)]
   obtain ⟨acc',e,h1,h2⟩:=inner i _ hx (xs[i]).2.length 0 (k+1) n acc (by omega) (by omega) (by omega) (fun z=>by simp [hmem z])
   rw [show ((0:Nat):Int)=0 from rfl] at e
   rw [e]
   exact ih (i+1) n acc' (by omega) (by omega) h1 h2
 have:=outer xs.length 0 (k+1) [] (by omega) (by omega) (by simp) (fun z=>by simp [zY])
 exact this
end Go.Proofs.YthicohakeljdcaaGreat.Q
namespace Go.Proofs.YthicohakeljdcaaGreat.Q
open Go Ovi
variable {k:Nat}
noncomputable def vB (xs:List Atom) (z:Int):Bool:=@decide (zY xs z) (Classical.propDecidable _)
theorem zcB {xs:List Atom} {vs:List Int} (h:∀ z,z∈vs↔zY xs z) (z:Int):decide (z∈vs)=vB xs z:=by
 unfold vB
 rw [Bool.eq_iff_iff]
 simp [h z]
def zco (a:Ovi.Rows) (xs:List Atom) (valid:Atom→Bool):Prop:=∀ x∈xs,∀ k,a.length < k→x.2.length < k→C (k+5) 219 [.d (.list 3 a),.agg [.d (.int .i64 x.1),.d (.list 1 (I1 x.2))]]=bo (valid x)∧C (k+5) 156 [.d (.list 3 a),.agg [.d (.int .i64 x.1),.d (.list 1 (I1 x.2))]]=bo (valid x)
theorem zfd {a:Ovi.Rows} (ha:Fit Rl (.list 3 a)) (xs:List Atom) (hx:∀ x∈xs,x.2.length≤maxLen):∃ valid:Atom→Bool,(∀ x∈xs,valid x=true→(0≤x.1∧x.1 < (a.length:Int))∧(x.2.length:Int)=ar a x.1∧∀ t∈x.2, -10≤t∧t≤4)∧zco a xs valid:=by
 have:∀ x:Atom,∃ b,x∈xs→(b=true→(0≤x.1∧x.1 < (a.length:Int))∧(x.2.length:Int)=ar a x.1∧∀ t∈x.2, -10≤t∧t≤4)∧∀ k,a.length < k→x.2.length < k→C (k+5) 219 [.d (.list 3 a),.agg [.d (.int .i64 x.1),.d (.list 1 (I1 x.2))]]=bo b∧C (k+5) 156 [.d (.list 3 a),.agg [.d (.int .i64 x.1),.d (.list 1 (I1 x.2))]]=bo b:=by
  intro x
  by_cases h:x∈xs
  ·obtain ⟨b,hb⟩:=atoms ha x (hx x h)
   exact ⟨b,fun _=>hb⟩
  ·exact ⟨false,fun h'=>absurd h' h⟩
 obtain ⟨valid,hv⟩:=Classical.axiomOfChoice this
 exact ⟨valid,fun x hx=>(hv x hx).1,fun x hx=>(hv x hx).2⟩
noncomputable def qOk (valid:Atom→Bool) (xs:List Atom) (out:List Int):Bool:=(decide ((1:Int)≤(xs.length:Int)∧(xs.length:Int)≤3)&&xs.all valid)&&(decide ((out.length:Int)≤3)&&out.all (vB xs))
theorem zaa {xs:List Atom} {x:Atom} (h:x∈xs):x.2.length≤zF xs:=by
 induction xs with
 | nil=>cases h
 | cons y ys ih =>
  have e:zF (y::ys)=y.2.length+zF ys:=by simp [zF]
  rw [e]
  rcases List.mem_cons.1 h with rfl | h
  ·omega
  ·have:=ih h;omega
theorem zbu {α:Type} (l:List α) (p:α→Bool):(!(l.any fun x=>!p x))=l.all p:=by
 induction l with
 | nil=>rfl
 | cons x l ih=>rw [List.any_cons,List.all_cons,← ih];cases p x<;>simp
theorem c95 {a:Ovi.Rows} {xs:List Atom} {out:List Int} {valid:Atom→Bool} (hv:zco a xs valid) (hk:2000000≤k) (ha:a.length≤1048576) (hs:zF xs+xs.length≤1048576) (ho:out.length≤1048576) :
  C (k+10) 95 [.d (.list 3 a),.agg [.d (.list 1 (I1 out)),.d (.list 2 (A1 xs))]]=bo (qOk valid xs out):=by
 have hmax:(1048576:Nat)≤maxLen:=by decide
 obtain ⟨vs,e,hm,hl⟩:=c161 (k:=k+8) xs (by omega) hs
 rw [F95.run,e]
 simp only [zj,zt,zh]
 have e68:C (k+9) 162 [.d (.list 3 a),.d (.list 2 (A1 xs)),.d (.int .i64 3)]=bo (decide ((1:Int)≤(xs.length:Int)∧(xs.length:Int)≤3)&&xs.all valid):=by
  rw [F162.run,c73,bB,zo]
  cases decide ((1:Int)≤(xs.length:Int)∧(xs.length:Int)≤3) with
  | false=>rfl
  | true =>
   rw [ite'_t rfl,c217 (k:=k+6) xs 218 [[.list 3 a]] (fun x=>!valid x) (by omega) (by omega) (fun x hx=>by
    have:=zaa hx
    rw [List.map_cons,List.map_nil,F218.run,(hv x hx k (by omega) (by omega)).1,bB];rfl),bB]
   exact zar (zbu xs valid)
 rw [e68,bB,zl]
 unfold qOk
 cases (decide ((1:Int)≤(xs.length:Int)∧(xs.length:Int)≤3)&&xs.all valid) with
 | false=>rfl
 | true =>
  rw [ite'_t rfl]
  by_cases h3:(out.length:Int)≤3
  ·rw [ite'_t (by simpa using h3),c163 (k:=k+7) out 164 [[.list 1 (I1 vs)]] (fun z=>!vB xs z) (by omega) (by omega) (fun z hz=>by
    rw [List.map_cons,List.map_nil,F164.run,c83 (k:=k+4) vs z (by omega) (by omega),bB,zcB hm];rfl),bB,decide_eq_true h3]
   exact zar (zbu out (vB xs))
  ·rw [ite'_f (by simpa using h3),decide_eq_false h3]
   rfl
theorem c89 {a:Ovi.Rows} {xs:List Atom} {out:List Int} {valid:Atom→Bool} (hv:zco a xs valid) (hk:2000000≤k) (ha:a.length≤1048576) (hs:zF xs+xs.length≤1048576) (ho:out.length≤1048576) :
  C (k+10) 89 [.d (.list 3 a),.agg [.d (.list 1 (I1 out)),.d (.list 2 (A1 xs))]]=bo (qOk valid xs out):=by
 have hmax:(1048576:Nat)≤maxLen:=by decide
 obtain ⟨vs,e,hm,hl⟩:=c155 (k:=k+7) xs (by omega) hs
 rw [F89.run,e]
 simp only [zj,zbI,zh]
 have l14:F89.L8 (k+9) (C (k+9)) (k+9) (I1 vs) 0 (I1 out) (A1 xs)=cond (out.any fun z=>!vB xs z) (bo false) (bo (decide ((1:Int)≤(xs.length:Int)∧(xs.length:Int)≤3)&&decide ((out.length:Int)≤3))) :=
  zbc (xs:=out) (L:=fun n i=>F89.L8 (k+9) (C (k+9)) n (I1 vs) i (I1 out) (A1 xs)) (stop:=fun z=>!vB xs z)
   (fun n i z hz=>by
    have hi:=(List.getElem?_eq_some_iff.1 hz).1
    rw [F89.L8.succ,zl,ite'_t (lt_t hi),ite'_t (zn hi)]
    simp only [Int.toNat_natCast,zG (I1_get' hz),List.getElem?_cons_zero,Option.bind_some,zx,ze]
    rw [c81 (k:=k+8) vs z (by omega) (by omega),bB,zcB hm,zy hi (m:=out.length) (by omega)];rfl)
   (fun n=>by
    rw [F89.L8.succ,zl,ite'_f (lt_f (by omega)),c68,bB,zo]
    cases decide ((1:Int)≤(xs.length:Int)∧(xs.length:Int)≤3)<;>rfl) (k+9) (by omega)
 have l3:F89.L3 (k+9) (C (k+9)) (k+9) a (I1 vs) 0 (I1 out) (A1 xs)=cond (xs.any fun x=>!valid x) (bo false) (F89.L8 (k+9) (C (k+9)) (k+9) (I1 vs) 0 (I1 out) (A1 xs)) :=
  zbc (xs:=xs) (L:=fun n i=>F89.L3 (k+9) (C (k+9)) n a (I1 vs) i (I1 out) (A1 xs)) (stop:=fun x=>!valid x)
   (fun n i x hx=>by
    have hi:=(List.getElem?_eq_some_iff.1 hx).1
    have:=zaa (List.mem_of_getElem? hx)
    rw [F89.L3.succ,zo,ite'_t (lt_t hi),ite'_t (zn hi)]
    simp only [Int.toNat_natCast,zG (zaF hx),zZ (zaF hx),List.getElem?_cons_zero,List.getElem?_cons_succ,Option.bind_some,zx,zL,ze,zh]
    rw [(hv x (List.mem_of_getElem? hx) (k+4) (by omega) (by omega)).2,bB,zy hi (m:=xs.length) (by omega)];rfl)
   (fun n=>by rw [F89.L3.succ,zo,ite'_f (lt_f (by omega))]) (k+9) (by omega)
 rw [l3,l14]
 unfold qOk
 rw [← zbu xs valid,← zbu out (vB xs)]
 cases (xs.any fun x=>!valid x)<;>cases (out.any fun z=>!vB xs z)<;>cases decide ((1:Int)≤(xs.length:Int)∧(xs.length:Int)≤3)<;>cases decide ((out.length:Int)≤3)<;>rfl
def In1:Ty:=.list [.int .i64]
def At:Ty:=.list [.int .i64,.list [.int .i64]]
theorem zfc {xs:List Atom}:szD (.list 2 (A1 xs))=xs.length+zF xs:=by
 simp only [szD,zo,zps]
 rfl
theorem zow {zs:List Int}:szD (.list 1 (I1 zs))=zs.length:=by simp only [szD,zl,zmB,Nat.add_zero]
theorem zox {a:Ovi.Rows}:a.length≤szD (.list 3 a):=by simp only [szD];omega
end Go.Proofs.YthicohakeljdcaaGreat.Q

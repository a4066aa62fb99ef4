/-
For all arguments, the program's CertainUnionAnswers answers as the reference's does, leaves its arguments as they were, and gives memory of its own. No condition.
-/
import Derived.Test.YtiacahdabflcdaaGreatUe
import Derived.Test.YtiacahdabflcdaaGreatProg
import Derived.Test.YtiacahdabflcdaaGreatUc
import Derived.Shelf.RegionOpenPlain
import Derived.Deep.LoopGhost
import Derived.WalkKit
import Derived.KernelRfl
import Derived.Shelf.Small.Wraps
import Derived.Shelf.Sort.Plain
import Derived.Shelf.Bits.Mul64
import Derived.Shelf.Slices.Equal
import Derived.Ground.Names2Prog
import Derived.Shelf.Slices.Clone
import Derived.Shelf.Slices.CompactI
import Derived.Shelf.Slices.Empties2
import Derived.Ground.SlsfProg
import Derived.Shelf.SlSortCmp.Whole1
import Derived.Ground.SlgnProg
import Derived.Shelf.SlicesE.Clone
import Derived.Shelf.SlSortCmp.WholeK
import Derived.Shelf.Spec.SlicesInsert
import Derived.Lib.SlicesCompact
import Derived.Laws.CopyRow
import Derived.Lib.Walk
import Derived.Shelf.GgSortFunc.Compose
import Derived.Sort.WalkA
import Derived.Sort.WalkC
import Derived.Sort.WalkB12
import Derived.Deep.QuietTactic
import Derived.BigQuiet
import Derived.BigRegion
import Derived.Lib.SliceRun
import Derived.Shelf.SlicesE.Kit
import Derived.Shelf.SlSortCmp.KitK
import Derived.Test.YtiacahdabflcdaaGreatRows
set_option linter.unusedVariables false
set_option linter.unusedSimpArgs false
namespace Go.Proofs.YtiacahdabflcdaaGreat.Q
open Go Ovi
set_option maxRecDepth 1000000
theorem F5.eq (k:Nat) (call:zh) (a0_0 a0_1 a1 a2:Ovi.Rows):zbX P hs call (5:FuncId) rs48 k Tryz.f5 [.agg [AV.s 3 a0_0,AV.s 2 a0_1],AV.s 5 a1,AV.s 2 a2]=za (call 6 [.agg [.d (.list 3 a0_0),.d (.list 2 a0_1)],.d (.int .i64 1048576)]) fun r6=>zg (resI .i64 1 false 1 r6 0 0) fun n7=>ite' (decide (n7 < 0)) (some ([(false,[.d (.bool true)])])) (za (call 7 [.d (.list 5 a1),.d (.int .i64 n7)]) fun r8=>zg (resI .i64 1 false 1 r8 0 0) fun n9=>ite' (decide (n9 < 0)) (some ([(false,[.d (.bool true)])])) (za (call 24 [.d (.list 2 a2),.d (.int .i64 n9)]) fun r10=>zg (resI .i64 1 false 1 r10 0 0) fun n11=>ite' (decide (n11 < 0)) (some ([(false,[.d (.bool true)])])) (za (call 9 [.agg [.d (.list 3 a0_0),.d (.list 2 a0_1)]]) fun r12=>zc (resO 112 3 1 true 2 r12 0 0) fun l13=>zc (resF 114 2 1 1 true 2 r12 0 1) fun l14=>za (call 10 [.d (.list 5 a1)]) fun r15=>zc (resF 76 5 2 1 false 1 r15 0 0) fun l16=>za (call 26 [.d (.list 2 a2)]) fun r17=>zc (resF 99 2 2 1 false 1 r17 0 0) fun l18=>za (call 25 [.agg [.d (.list 3 l13),.d (.list 2 l14)],.d (.list 5 l16),.d (.list 2 l18)]) fun r19=>zc (resL 1 2 false 1 r19 0 0) fun l20=>zj (resB 2 false 1 r19 1 0) fun b21=>za (call 9 [.agg [.d (.list 3 a0_0),.d (.list 2 a0_1)]]) fun r22=>zc (resO 112 3 1 true 2 r22 0 0) fun l23=>zc (resF 114 2 1 1 true 2 r22 0 1) fun l24=>za (call 10 [.d (.list 5 a1)]) fun r25=>zc (resF 76 5 2 1 false 1 r25 0 0) fun l26=>za (call 26 [.d (.list 2 a2)]) fun r27=>zc (resF 99 2 2 1 false 1 r27 0 0) fun l28=>za (call 27 [.agg [.d (.list 3 l23),.d (.list 2 l24)],.d (.list 5 l26),.d (.list 2 l28)]) fun r29=>zc (resF 27 1 1 2 false 1 r29 0 0) fun l30=>ite' (depR 1 l30) (zj (resB 2 false 1 r29 1 0) fun b31=>za (call 28 [.d (.list 1 l30),.d (.list 1 l20)]) fun r32=>zj (resB 1 false 1 r32 0 0) fun b33=>ite' (!b33) (some ([(false,[.d (.bool false)])])) (ite' (!b31==b21) (some ([(false,[.d (.bool false)])])) (za (call 9 [.agg [.d (.list 3 a0_0),.d (.list 2 a0_1)]]) fun r34=>zc (resO 112 3 1 true 2 r34 0 0) fun l35=>zc (resF 114 2 1 1 true 2 r34 0 1) fun l36=>za (call 14 [.agg [.d (.list 3 l23),.d (.list 2 l24)],.agg [.d (.list 3 l35),.d (.list 2 l36)]]) fun r37=>zj (resB 1 false 1 r37 0 0) fun b38=>ite' (!b38) (some ([(false,[.d (.bool false)])])) (za (call 10 [.d (.list 5 a1)]) fun r39=>zc (resF 76 5 2 1 false 1 r39 0 0) fun l40=>za (call 15 [.d (.list 5 l26),.d (.list 5 l40)]) fun r41=>zj (resB 1 false 1 r41 0 0) fun b42=>ite' (!b42) (some ([(false,[.d (.bool false)])])) (za (call 26 [.d (.list 2 a2)]) fun r43=>zc (resF 99 2 2 1 false 1 r43 0 0) fun l44=>za (call 29 [.d (.list 2 l28),.d (.list 2 l44)]) fun r45=>zj (resB 1 false 1 r45 0 0) fun b46=>ite' (!b46) (some ([(false,[.d (.bool false)])])) (ite' (depR 0 l23) (ite' (depR 1 l24) (ite' (depR 2 l26) (ite' (depR 2 l28) (ite' (depR 1 l30) (za (call 17 [.var 0 0,.d (.bool true),.d (.int .i64 1),.d (.int .i64 (↑112:Int)),.d (.list 3 l23),.d (.int .i64 (↑114:Int)),.d (.list 2 l24)]) fun r47=>zc (resO 112 3 3 false 1 r47 0 0) fun l48=>zc (resO 114 2 3 false 1 r47 1 0) fun l49=>zg (resI .i64 3 false 1 r47 2 0) fun n50=>ite' (depR 2 l26) (ite' (depR 2 l28) (ite' (depR 1 l30) (za (call 18 [.var 0 0,.d (.bool false),.d (.int .i64 n50),.d (.int .i64 (↑76:Int)),.d (.list 5 l26)]) fun r51=>zc (resO 76 5 2 false 1 r51 0 0) fun l52=>zg (resI .i64 2 false 1 r51 1 0) fun n53=>ite' (depR 2 l28) (ite' (depR 1 l30) (za (call 30 [.var 0 0,.d (.bool false),.d (.int .i64 n53),.d (.int .i64 (↑99:Int)),.d (.list 2 l28)]) fun r54=>zc (resO 99 2 2 false 1 r54 0 0) fun l55=>zg (resI .i64 2 false 1 r54 1 0) fun n56=>ite' (decide (n56 < 0)) (some ([(false,[.d (.bool false)])])) (za (call 28 [.d (.list 1 l30),.d (.list 1 l20)]) fun r57=>zj (resB 1 false 1 r57 0 0) fun b58=>ite' (!b58) (some ([(false,[.d (.bool false)])])) (ite' (!b31==b21) (some ([(false,[.d (.bool false)])])) (ite' (depR 1 l30) (za (call 31 [.var 0 0,.d (.bool false),.d (.int .i64 1),.d (.int .i64 (↑27:Int)),.d (.list 1 l30)]) fun r59=>zc (resO 27 1 2 false 1 r59 0 0) fun l60=>zg (resI .i64 2 false 1 r59 1 0) fun n61=>za (call 32 [.d (.list 1 l60),.d (.int .i64 1)]) fun r62=>zg (resI .i64 1 false 1 r62 0 0) fun n63=>ite' (decide (n63 < 0)) (some ([(false,[.d (.bool false)])])) (ite' (n63 != n61) (some ([(false,[.d (.bool false)])])) (za (call 9 [.agg [.d (.list 3 a0_0),.d (.list 2 a0_1)]]) fun r64=>zc (resO 112 3 1 true 2 r64 0 0) fun l65=>zc (resF 114 2 1 1 true 2 r64 0 1) fun l66=>za (call 10 [.d (.list 5 a1)]) fun r67=>zc (resF 76 5 2 1 false 1 r67 0 0) fun l68=>za (call 26 [.d (.list 2 a2)]) fun r69=>zc (resF 99 2 2 1 false 1 r69 0 0) fun l70=>za (call 27 [.agg [.d (.list 3 l65),.d (.list 2 l66)],.d (.list 5 l68),.d (.list 2 l70)]) fun r71=>zc (resF 27 1 1 2 false 1 r71 0 0) fun l72=>ite' (depR 1 l72) (zj (resB 2 false 1 r71 1 0) fun b73=>za (call 28 [.d (.list 1 l72),.d (.list 1 l20)]) fun r74=>zj (resB 1 false 1 r74 0 0) fun b75=>ite' (!b75) (some ([(false,[.d (.bool false)])])) (ite' (!b73==b21) (some ([(false,[.d (.bool false)])])) (za (call 32 [.d (.list 1 l60),.d (.int .i64 1)]) fun r76=>zg (resI .i64 1 false 1 r76 0 0) fun n77=>ite' (decide (n77 < 0)) (some ([(false,[.d (.bool false)])])) (ite' (n77 != n61) (some ([(false,[.d (.bool false)])])) (some ([(false,[.d (.bool true)])])))))) none))) none)))) none) none) none) none) none) none) none) none) none) none)))))) none))):=by kernel_rfl
variable {k:Nat}
theorem zpT (call:zh) (k:Nat) {a b d q:Ovi.Rows} {n:Int}
  (tA:call 6 [.agg [.d (.list 3 a),.d (.list 2 b)],.d (.int .i64 1048576)]=some [(false,[.d (.int .i64 n)])]) (hn:decide (n < 0)=true) :
  zbX P hs call (5:FuncId) rs48 k Tryz.f5 [.agg [.s 3 a,.s 2 b],.s 5 d,.s 2 q]=bo true:=by
 rw [F5.eq,tA,zi,zw,zd,ite'_t hn]
 rfl
theorem zpS (call:zh) (k:Nat) {a b d q:Ovi.Rows} {n n2:Int}
  (tA:call 6 [.agg [.d (.list 3 a),.d (.list 2 b)],.d (.int .i64 1048576)]=some [(false,[.d (.int .i64 n)])]) (hn:decide (n < 0)=false)
  (tB:call 7 [.d (.list 5 d),.d (.int .i64 n)]=some [(false,[.d (.int .i64 n2)])]) (hn2:decide (n2 < 0)=true) :
  zbX P hs call (5:FuncId) rs48 k Tryz.f5 [.agg [.s 3 a,.s 2 b],.s 5 d,.s 2 q]=bo true:=by
 rw [F5.eq,tA,zi,zw,zd,ite'_f hn,tB,zi,zw,zd,ite'_t hn2]
 rfl
theorem zpU (call:zh) (k:Nat) {a b d q:Ovi.Rows} {n n2 n3:Int}
  (tA:call 6 [.agg [.d (.list 3 a),.d (.list 2 b)],.d (.int .i64 1048576)]=some [(false,[.d (.int .i64 n)])]) (hn:decide (n < 0)=false)
  (tB:call 7 [.d (.list 5 d),.d (.int .i64 n)]=some [(false,[.d (.int .i64 n2)])]) (hn2:decide (n2 < 0)=false)
  (tC:call 24 [.d (.list 2 q),.d (.int .i64 n2)]=some [(false,[.d (.int .i64 n3)])]) (hn3:decide (n3 < 0)=true) :
  zbX P hs call (5:FuncId) rs48 k Tryz.f5 [.agg [.s 3 a,.s 2 b],.s 5 d,.s 2 q]=bo true:=by
 rw [F5.eq,tA,zi,zw,zd,ite'_f hn,tB,zi,zw,zd,ite'_f hn2,tC,zi,zw,zd,ite'_t hn3]
 rfl
theorem zpV (call:zh) (k:Nat) {a b d q a' b' d' q' B B':Ovi.Rows} {g:Bool} {n n2 n3 z1 z2 z3 zb:Int} {XI XD XQ R1 R2 MI MD MQ MB:Res}
  (tA:call 6 [.agg [.d (.list 3 a),.d (.list 2 b)],.d (.int .i64 1048576)]=some [(false,[.d (.int .i64 n)])]) (hn:decide (n < 0)=false)
  (tB:call 7 [.d (.list 5 d),.d (.int .i64 n)]=some [(false,[.d (.int .i64 n2)])]) (hn2:decide (n2 < 0)=false)
  (tC:call 24 [.d (.list 2 q),.d (.int .i64 n2)]=some [(false,[.d (.int .i64 n3)])]) (hn3:decide (n3 < 0)=false)
  (tI:call 9 [.agg [.d (.list 3 a),.d (.list 2 b)]]=some XI) (x0:resO 112 3 1 true 2 XI 0 0=some a) (x1:resF 114 2 1 1 true 2 XI 0 1=some b)
  (tD:call 10 [.d (.list 5 d)]=some XD) (x2:resF 76 5 2 1 false 1 XD 0 0=some d)
  (tQ:call 26 [.d (.list 2 q)]=some XQ) (x3:resF 99 2 2 1 false 1 XQ 0 0=some q)
  (ts:call 25 [.agg [.d (.list 3 a),.d (.list 2 b)],.d (.list 5 d),.d (.list 2 q)]=some R1) (r0:resL 1 2 false 1 R1 0 0=some B) (r1:resB 2 false 1 R1 1 0=some g)
  (ti:call 27 [.agg [.d (.list 3 a),.d (.list 2 b)],.d (.list 5 d),.d (.list 2 q)]=some R2) (s0:resF 27 1 1 2 false 1 R2 0 0=some B) (s1:resB 2 false 1 R2 1 0=some g)
  (d1:depR 0 a=true) (d2:depR 1 b=true) (d3:depR 2 d=true) (d4:depR 2 q=true) (d6:depR 1 B=true)
  (tE:call 28 [.d (.list 1 B),.d (.list 1 B)]=some [(false,[.d (.bool true)])])
  (tF:call 14 [.agg [.d (.list 3 a),.d (.list 2 b)],.agg [.d (.list 3 a),.d (.list 2 b)]]=some [(false,[.d (.bool true)])])
  (tG:call 15 [.d (.list 5 d),.d (.list 5 d)]=some [(false,[.d (.bool true)])])
  (tH:call 29 [.d (.list 2 q),.d (.list 2 q)]=some [(false,[.d (.bool true)])])
  (m17:call 17 [.var 0 0,.d (.bool true),.d (.int .i64 1),.d (.int .i64 112),.d (.list 3 a),.d (.int .i64 114),.d (.list 2 b)]=some MI)
  (v0:resO 112 3 3 false 1 MI 0 0=some a') (v1:resO 114 2 3 false 1 MI 1 0=some b') (v2:resI .i64 3 false 1 MI 2 0=some z1)
  (m18:call 18 [.var 0 0,.d (.bool false),.d (.int .i64 z1),.d (.int .i64 76),.d (.list 5 d)]=some MD)
  (w0:resO 76 5 2 false 1 MD 0 0=some d') (w1:resI .i64 2 false 1 MD 1 0=some z2)
  (m30:call 30 [.var 0 0,.d (.bool false),.d (.int .i64 z2),.d (.int .i64 99),.d (.list 2 q)]=some MQ)
  (y0:resO 99 2 2 false 1 MQ 0 0=some q') (y1:resI .i64 2 false 1 MQ 1 0=some z3) (hz3:0≤z3)
  (m31:call 31 [.var 0 0,.d (.bool false),.d (.int .i64 1),.d (.int .i64 27),.d (.list 1 B)]=some MB)
  (u0:resO 27 1 2 false 1 MB 0 0=some B') (u1:resI .i64 2 false 1 MB 1 0=some zb) (hzb:0≤zb)
  (t32:call 32 [.d (.list 1 B'),.d (.int .i64 1)]=some [(false,[.d (.int .i64 zb)])]) :
  zbX P hs call (5:FuncId) rs48 k Tryz.f5 [.agg [.s 3 a,.s 2 b],.s 5 d,.s 2 q]=bo true:=by
 have n1:decide (z3 < 0)=false:=by simp only [decide_eq_false_iff_not];omega
 have n2':decide (zb < 0)=false:=by simp only [decide_eq_false_iff_not];omega
 have n3':(zb != zb)=false:=zjX _
 have n5:(!g==g)=false:=by cases g<;>rfl
 have tt:(!true)=false:=rfl
 have i0:∀ (x y:Option Res),ite' false x y=y:=fun _ _=>rfl
 have i1:∀ (x y:Option Res),ite' true x y=x:=fun _ _=>rfl
 rw [F5.eq,tA,zi,zw,zd,hn,i0,tB,zi,zw,zd,hn2,i0,tC,zi,zw,zd,hn3,i0]
 simp only [tI,zi,x0,x1,zf,tD,x2,tQ,x3,ts,r0,r1,zt,ti,s0,s1,d1,d2,d3,d4,d6,i1]
 simp only [tE,zi,zH,zt,tt,i0,n5,tF,tG,tH]
 rw [m17]
 simp only [zi,v0,v1,v2,zf,zd,i1]
 rw [m18]
 simp only [zi,w0,w1,zf,zd,i1]
 rw [m30]
 simp only [zi,y0,y1,zf,zd,n1,i0,i1,tE,zH,zt,tt,n5]
 rw [m31]
 simp only [zi,u0,u1,zf,zd,t32,zw,n2',n3',i0,i1,tE,zH,zt,tt,n5,d6]
 rfl
theorem F9xU {a b:Ovi.Rows}:resO 112 3 1 true 2 [(true,[.row 112 3 a,.frow 114 2 1 b])] 0 0=some a∧resF 114 2 1 1 true 2 [(true,[.row 112 3 a,.frow 114 2 1 b])] 0 1=some b:=⟨rfl,rfl⟩
set_option maxRecDepth 1000000 in
theorem zpR (hk:1000000000000≤k) {a b d q:Ovi.Rows} (h1:Fit Rl (.list 3 a)) (h2:Fit At (.list 2 b)) (h3:Fit Dt (.list 5 d)) (h4:Fit Qt (.list 2 q)):zbX P hs (C k) (5:FuncId) rs48 k Tryz.f5 [.agg [.s 3 a,.s 2 b],.s 5 d,.s 2 q]=bo true:=by
 obtain ⟨k,rfl⟩:∃ j,k=j+35:=⟨k - 35,by omega⟩
 have tA:=c6 (k:=k+35) (by omega) h1 h2 (left:=1048576) (by omega) (by omega)
 rcases zT 1048576 (szC [.list 3 a,.list 2 b]) with ⟨q1,e1⟩ | ⟨q1,e1⟩<;>rw [e1] at tA
 rotate_left
 ·exact zpT _ _ tA zdW
 have p1:=q1
 simp only [szC] at p1
 have z1:szD (.list 3 a)≤1048576:=by omega
 have z2:szD (.list 2 b)≤1048576:=by omega
 have tB:=c7 (k:=k+35) (by omega) h3 (left:=1048576 - ((szC [.list 3 a,.list 2 b]:Nat):Int)) (by omega) (by omega)
 rcases zT (1048576 - ((szC [.list 3 a,.list 2 b]:Nat):Int)) (szD (.list 5 d)) with ⟨q2,e2⟩ | ⟨q2,e2⟩<;>rw [e2] at tB
 rotate_left
 ·exact zpS _ _ tA (zaz (by omega)) tB zdW
 have z3:szD (.list 5 d)≤1048576:=by omega
 have tC:=c24 (k:=k+35) (by omega) h4 (left:=1048576 - ((szC [.list 3 a,.list 2 b]:Nat):Int) - ((szD (.list 5 d):Nat):Int)) (by omega) (by omega)
 rcases zT (1048576 - ((szC [.list 3 a,.list 2 b]:Nat):Int) - ((szD (.list 5 d):Nat):Int)) (szD (.list 2 q)) with ⟨q3,e3⟩ | ⟨q3,e3⟩<;>rw [e3] at tC
 rotate_left
 ·exact zpU _ _ tA (zaz (by omega)) tB (zaz (by omega)) tC zdW
 have z4:szD (.list 2 q)≤1048576:=by omega
 have tI:=c9 (k:=k+35) (by omega) h1 h2 z1 z2
 have tF:=c14 (k:=k+35) (by omega) h1 h2 z1 z2
 have tD:=c10 (k:=k+35) (by omega) h3 z3
 have tG:=c15 (k:=k+35) (by omega) h3 z3
 have tQ:=c26 (k:=k+35) (by omega) h4 z4
 have tH:=c29 (k:=k+35) (by omega) h4 z4
 obtain ⟨fs,rfl,hF⟩:=h2.atoms'
 obtain ⟨ds,rfl⟩:=zmR h3
 obtain ⟨qs,rfl⟩:=zox h4
 obtain ⟨y1,y2⟩:=zos z3
 obtain ⟨j1,j2⟩:=zp0 z4
 have x2:=z2
 rw [zcG] at x2
 have ya:=Nat.le_trans zof z1
 have hmax:(50000000000:Nat)≤maxLen:=by decide
 obtain ⟨B,g,R1,R2,⟨hBl,hBx⟩,r0,r1,s0,s1,hce⟩:=zo9 (a:=a) (fs:=fs) ⟨h1,ya,fun x hx=>(hF x hx).2,by omega,fun x hx=>(hF x hx).1⟩ ds y2 y1 qs j2 j1
 obtain ⟨g1,g2⟩:=hce (k+6) (by omega)
 unfold ia at g1 g2
 have hBt:tot B≤3 * B.length:=by
  have hs:=fun b hb=>(hBx b hb).1
  clear hce r0 s0 hBx hBl
  unfold tot
  induction B with
  | nil=>simp
  | cons b r ih =>
   have h3:=hs b List.mem_cons_self
   have h4:=ih fun b hb=>hs b (List.mem_cons_of_mem _ hb)
   simp only [List.map_cons,List.sum_cons,List.length_cons]
   omega
 have hBf:Fit (.list [.list [.int .i64]]) (.list 1 (LL B)):=zmp B (fun b hb=>(hBx b hb).2) (by omega) (fun b hb=>by have:=(hBx b hb).1;omega)
 have tE:=c28G (k:=k+35) (by omega) hBf (by rw [zx];omega) (fun r hr l e=>by
  obtain ⟨b,hb,rfl⟩:=List.mem_map.1 hr
  cases e
  rw [ziL]
  have:=(hBx b hb).1
  omega)
 have h112:((112:Nat):Int)=112:=rfl
 have h114:((114:Nat):Int)=114:=rfl
 have h76:((76:Nat):Int)=76:=rfl
 have h99:((99:Nat):Int)=99:=rfl
 have h27:((27:Nat):Int)=27:=rfl
 obtain ⟨a',ha'⟩:=zn8 h1 1
 obtain ⟨b',hb'⟩:=zeN fs (1+3 * (a.length:Int))
 have m17:=e17 (k:=k+34) ha' hb' (by omega)
 rw [h112,h114] at m17
 obtain ⟨d',md,hd',hd1,hd2⟩:=znW ds y2 (1+3 * (a.length:Int)+(fs.length+zC fs:Nat))
 have m18:=e52 (k:=k+34) hd' (by omega) (by omega)
 rw [h76] at m18
 obtain ⟨q',mq,hq',hq1,hq2⟩:=zpZ qs j2 md
 have m30:=eQ (k:=k+34) hq' (by omega) (by omega)
 rw [h99] at m30
 obtain ⟨B',hB'⟩:=zmX B 1
 have m31:=e34 (k:=k+34) hB' (by omega)
 rw [h27] at m31
 have lB:=(z8 zb7 hB').2
 rw [zx] at lB
 have t32:=c32G (k:=k+33) hB' (by omega) (by omega) (by omega) (fun r hr l e=>by
  obtain ⟨b,hb,rfl⟩:=List.mem_map.1 hr
  cases e
  rw [zl]
  have:=(hBx b hb).1
  omega) (by omega)
 exact zpV (C (k+35)) (k+35) tA (zaz (by omega)) tB (zaz (by omega)) tC (zaz (by omega)) tI F9xU.1 F9xU.2 tD rfl tQ rfl g1 r0 r1 g2 s0 s1
  (znX h1) (zdN fs) (zmO ds) (zor qs) (zdO B) tE tF tG tH m17 rfl rfl rfl m18 rfl rfl m30 rfl rfl (by omega) m31 rfl rfl (by omega) t32
end Go.Proofs.YtiacahdabflcdaaGreat.Q
namespace Go.Proofs
open Go Ovi Go.RowKit
def Kp (isn:Nat→Bool) (hs:List Value):Nat→List Value
 | 0=>[]
 | n+1=>Kp isn hs n++(if isn n then [] else [hs.getD n undef])
theorem zl0 (isn:Nat→Bool) (hs:List Value):∀ n,(Kp isn hs n).length≤n
 | 0=>Nat.le_refl _
 | n+1=>by
  have:=zl0 isn hs n
  simp only [Kp,List.length_append]
  split<;>simp<;>omega
theorem zol {isn:Nat→Bool} {hs:List Value} {n:Nat} (h:isn n=false):Kp isn hs (n+1)=Kp isn hs n++[hs.getD n undef]:=by simp [Kp,h]
theorem znL {isn:Nat→Bool} {hs:List Value} {n:Nat} (h:isn n=true):Kp isn hs (n+1)=Kp isn hs n:=by simp [Kp,h]
theorem own_below' {w w':World} {B e size n:Nat} {v:Value} {xs:List Value} (h:w.ownsRow B e size v n xs) (hb:Below w.heap.size w w'):w'.ownsRow B e size v n xs:=by
 obtain ⟨h1,h2⟩:=h
 refine ⟨h1,?_⟩
 rcases h2 with h2 | ⟨g,cap,cur,k1,k2,k3,k4⟩
 ·exact .inl h2
 ·exact .inr ⟨g,cap,cur,k1,k2,(hb.block g (zY k3)).trans k3,k4⟩
theorem zkM {B:Nat} {w wr w':World} (hb:Below B w wr) (hB:B≤wr.heap.size) {row:Option Nat} (hr:∀ b,row=some b→B≤b) (hg:wr.grownBy w' row):Below B w w' :=
 hb.trans ⟨hg.os,hg.tape,hg.output,hg.size,fun k hk=>hg.block k (by omega) fun e=>by have:=hr k e.symm;omega⟩
theorem zmt {w:World} {B e size n:Nat} {v:Value} {xs:List Value} (h:w.ownsRow B e size v n xs):∀ b,v.ownBlock=some b→B≤b:=by
 intro b hb
 rcases h.2 with ⟨rfl,_⟩ | ⟨g,cap,cur,rfl,k2,_⟩
 ·cases hb
 ·cases hb;exact k2
theorem Tryz.info39:(Tryz.prog.info? 27).map (fun i=>(i.zero,i.size,i.bytes))=some (some (.slice none 0 0),1,24):=by kernel_rfl
set_option maxHeartbeats 4000000 in
set_option maxRecDepth 1000000 in
theorem Tryz.groundRows (b N cap:Nat) (hs:List Value) (isn:Nat→Bool) (w:World) (hlen:hs.length=N) (hcap:N≤cap) (hN:N≤1099511627776) (hb:b < w.heap.size) (hcell:∀ i v,hs[i]? = some v→w.cell? ⟨b,i,none⟩=some v) (h1:∀ v∈hs,∃ A n c,v=.slice A n c)
  (hcall:∀ (i:Nat) v,hs[i]? = some v→∀ W,Below w.heap.size w W→Calls Tryz.prog 129 #[v,.func (.func 145) #[] #[]] W fun e w'=>e=.returned (.bool (isn i))∧Below W.heap.size W w') :
  Calls Tryz.prog 163 #[.slice (some ⟨b,0,none⟩) N cap] w fun e w'=>∃ v,e=.returned v∧Below w.heap.size w w'∧w'.ownsRow w.heap.size 27 1 v (Kp isn hs N).length (Kp isn hs N):=by
 obtain ⟨i0,hi,hz0,hz1,hz2⟩:=info_parts Tryz.info39
 have HC:Aside (∀ (i:Nat) v,hs[i]? = some v→∀ W,Below w.heap.size w W→Calls Tryz.prog 129 #[v,.func (.func 145) #[] #[]] W fun e w'=>e=.returned (.bool (isn i))∧Below W.heap.size W w'):=hcall
 have HX:Aside (∀ i v,hs[i]? = some v→w.cell? ⟨b,i,none⟩=some v):=hcell
 clear hcall hcell
 go_enter Tryz.func163,Tryz.ntmps163
 go_wp2
 go_loopg [3,5,9] N (fun gk s3 s5 s9 wr=>∃ i:Nat,i≤N∧N - i≤gk∧s9=.int .i64 i∧wr.ownsRow w.heap.size 27 1 s3 (Kp isn hs i).length (Kp isn hs i)∧Below w.heap.size w wr)
 case atStart =>
  refine ⟨0,Nat.zero_le _,by omega,rfl,⟨rfl,.inr ⟨w.heap.size,0,#[],rfl,Nat.le_refl _,?_,Nat.le_refl _,Nat.zero_le _,rfl,rfl⟩⟩,(Below.refl _ w).alloc (Nat.le_refl _) _⟩
  exact heap_alloc_new w _
 case round =>
  obtain ⟨i,hi1,hg,rfl,hown,hbw⟩:=hrel
  by_cases hlt:i < N
  ·have hv:hs[i]? = some (hs.getD i undef):=by rw [List.getD_eq_getElem?_getD,List.getElem?_eq_getElem (by omega)];rfl
   have hcx:wr.cell? ⟨b,i,none⟩=some (hs.getD i undef):=(hbw.cell (by exact hb)).trans (HX.out i _ hv)
   have hcl:=HC.out i _ hv wr hbw
   have hbr:w.heap.size≤wr.heap.size:=hbw.size
   have hKl:=zl0 isn hs i
   have KH:Aside (isn i=false→Kp isn hs (i+1)=Kp isn hs i++[hs.getD i undef]):=zol
   have KM:Aside (isn i=true→Kp isn hs (i+1)=Kp isn hs i):=znL
   obtain ⟨A,n1,c1,hvs⟩:=h1 _ (List.mem_of_getElem? hv)
   rw [hvs] at hcx hcl KH
   clear hvs hv h1 HC HX
   generalize hK2:Kp isn hs (i+1)=K2 at KH KM
   have HK2:Hid (Kp isn hs (i+1)=K2):=hK2
   clear hK2
   generalize hK1:Kp isn hs i=K1 at *
   have HK:Hid (Kp isn hs i=K1):=hK1
   clear hK1
   go_wp2_with (first
    | (go_at_call 129;refine hcl.mono ?_;rintro e w1 ⟨rfl,hb1⟩;have hown1:=own_below' hown hb1;have hbw1:=hbw.trans (hb1.mono hbr);have hbr1:w.heap.size≤w1.heap.size:=Nat.le_trans hbr hb1.size;clear hown hbw hcl hcx hb1)
    | (at_builtin;refine wpList_append_own _ rfl _ _ 56 rfl w.heap.size 27 i0 (.slice none 0 0) 1 24 Tryz.underlying56 hi hz0 hz1 hz2 rfl (by decide) _ _ _ rfl (hown1.alloc _) ⟨w1.heap.size,0,none⟩ 1 1 [.slice A n1 c1] rfl rfl ?c1 ?c2 ?c3 ?c4 ?c5 ?_))
   case c1 =>
    intro j u hj
    match j,hj with
    | 0,hj=>simp at hj;subst hj;simp [Addr.add]
   case c2=>intro u hu;simp at hu;subst hu;rfl
   case c3=>unfold maxLen;omega
   case c4=>omega
   case c5=>simp;omega
   ·intro v' w2 hown' hgrow _
    have hno:(!isn i)=true:=by assumption
    have e2:=KH.out (by simpa using hno)
    have hb2:Below w.heap.size w w2:=zkM (hbw1.alloc hbr1 _) (by simp;omega) (zmt hown1) hgrow
    have hown2:w2.ownsRow w.heap.size 27 1 v' K2.length K2:=by rw [e2];simpa using hown'
    clear hown' hgrow hown1 hbw1 e2
    go_wp2
    go_roundg (N - i - 1)
    case measure=>omega
    case rel=>exact ⟨i+1,by omega,by omega,by go_num,by rw [HK2.out];exact hown2,hb2⟩
   ·have hno:(!isn i)=false:=by assumption
    have e2:=KM.out (by simpa using hno)
    go_roundg (N - i - 1)
    case measure=>omega
    case rel=>exact ⟨i+1,by omega,by omega,by go_num,by rw [HK2.out,e2];exact hown1,hbw1⟩
  ·obtain rfl:i=N:=by omega
   clear HC HX h1
   go_wp2
   go_ret
   exact ⟨_,rfl,hbw,hown⟩
end Go.Proofs
namespace Go.Proofs.YtiacahdabflcdaaGreat.Q
open Go Ovi Go.RowKit Go.Proofs
variable {k:Nat}
theorem ok:zmv Tryz.prog=true:=by kernel_rfl
theorem mixed:Tryz.prog.follows .mixedOrders=true:=by kernel_rfl
theorem bare (k:Nat):Sound Tryz.prog noG (C0 k):=zfF (zdP mixed) (zhW ok) (zid _ _) k
theorem n182 (z:Int):C0 (k+1) 145 [.d (.int .i64 z)]=some [(false,[.d (.bool (Ovi.neg z))])]:=by
 have h:C0 (k+1) 145 [.d (.int .i64 z)]=zcI P hs (C0 k) 145 k Tryz.f145 [.d (.int .i64 z)]:=by kernel_rfl
 rw [h]
 have h2:zcI P hs (C0 k) 145 k Tryz.f145 [.d (.int .i64 z)]=some [(false,[.d (.bool (decide (z < 0)))])]:=by kernel_rfl
 exact h2
noncomputable def N220 (k n:Nat) (zs:Ovi.Rows) (len i:Int):Option Res:=zp P hs (C0 k) 174 k Tryz.f174 [1,0,1,0] [] n [(0,AV.d (D.list 1 zs)),(1,AV.d (D.fn 145 [])),(7,AV.d (D.int IntKind.i64 len)),(8,AV.d (D.int IntKind.i64 i))] []
theorem N220.succ (k n:Nat) (zs:Ovi.Rows) (len i:Int):N220 k (n+1) zs len i=ite' (decide (i < len)) (ite' (inR i (List.length zs)) (zg (zm IntKind.i64 zs i.toNat 0) fun n11=>za (C0 k 145 [AV.d (D.int IntKind.i64 n11)]) fun r12=>zj (resB 1 false 1 r12 0 0) fun b13=>ite' (b13) (some ([(false,[RL.d (D.int IntKind.i64 i)])])) (N220 k n zs len (IntKind.i64.wrap (i+(1:Int))))) (none)) (some ([(false,[RL.d (D.int IntKind.i64 (-1:Int))])])):=by kernel_rfl
theorem n163 (zs:List Int) (hk:zs.length < k) (hz:zs.length≤maxLen):C0 (k+3) 129 [.d (.list 1 (I1 zs)),.d (.fn 145 [])]=some [(false,[.d (.bool (zs.any Ovi.neg))])]:=by
 have h1:C0 (k+3) 129 [.d (.list 1 (I1 zs)),.d (.fn 145 [])]=za (C0 (k+2) 174 [.d (.list 1 (I1 zs)),.d (.fn 145 [])]) fun r5=>zg (resI IntKind.i64 1 false 1 r5 0 0) fun n6=>some ([(false,[RL.d (D.bool (decide (n6 ≥ (0:Int))))])]):=by kernel_rfl
 have h2:C0 (k+2) 174 [.d (.list 1 (I1 zs)),.d (.fn 145 [])]=N220 (k+1) (k+1) (I1 zs) ((List.length (I1 zs):Nat):Int) 0:=by kernel_rfl
 rw [h1,h2,zl]
 have:=zal (xs:=zs) (L:=fun n i=>N220 (k+1) n (I1 zs) (zs.length:Int) i) (stop:=fun _ x=>Ovi.neg x) (hit:=fun i=>some [(false,[.d (.int .i64 (i:Int))])]) (fin:=some [(false,[.d (.int .i64 (-1))])])
  (fun n i x hx=>by
   have hi:=(List.getElem?_eq_some_iff.1 hx).1
   rw [N220.succ,zl,ite'_t (lt_t hi),ite'_t (zn hi)]
   simp only [Int.toNat_natCast,zG (I1_get' hx),List.getElem?_cons_zero,Option.bind_some,zy,zd]
   rw [zz hi hz,n182,zi,zH,zt];rfl)
  (fun n=>by rw [N220.succ,ite'_f (lt_f (by omega))]) (k+1) (by omega)
 rcases this with ⟨i,x,hx,hst,e⟩ | ⟨hst,e⟩
 ·rw [show N220 (k+1) (k+1) (I1 zs) (zs.length:Int) 0=_ from e]
  simp only [zi,zw,zd]
  rw [List.any_eq_true.2 ⟨x,List.mem_of_getElem? hx,hst⟩]
  simp
 ·rw [show N220 (k+1) (k+1) (I1 zs) (zs.length:Int) 0=_ from e]
  simp only [zi,zw,zd]
  rw [List.any_eq_false.2 (fun x hx=>?_)]
  ·rfl
  ·obtain ⟨i,hi⟩:=List.mem_iff_getElem?.1 hx
   simpa using hst i x hi
theorem n110:zaQ Tryz.prog hs (fun _=>none) 8 163 [.d (.list 1 [])]=some [(false,[.row 27 1 []])]:=by kernel_rfl
theorem zjL (isn:Nat→Bool) (hs:List Value):∀ n,Kp isn hs n=(zdZ isn n).map fun i=>hs.getD i undef
 | 0=>rfl
 | n+1=>by
  unfold zdZ
  rw [List.range_succ,List.filter_append,List.map_append,Kp,zjL isn hs n]
  congr 1
  cases h:isn n<;>simp [h]
theorem zmV:PrimOk Tryz.prog noG 163 (zeP 27) where
 known:=⟨Tryz.f163,Tryz.func163,rfl,by kernel_rfl⟩
 plain:=fun args r hr=>by
  obtain ⟨⟨e0,l⟩,hra,hr⟩:=Option.bind_eq_some_iff.1 hr
  obtain ⟨_,_,rfl⟩:=zbf hra
  exact plain_raw'
 mark:=fun b k xs r hr=>by
  obtain ⟨q,h1,_⟩:=Option.bind_eq_some_iff.1 hr
  obtain ⟨e,xs',h2⟩:=zbf h1
  cases h2
 raw:=fun k e sz xs rest r hr e' he=>by
  obtain ⟨⟨e0,l⟩,hra,hr2⟩:=Option.bind_eq_some_iff.1 hr
  obtain ⟨rfl,rfl,rfl,h4,hlen,hlz⟩:=zdE hra
  simp only at h4 hlen hlz
  subst he h4
  simp only [] at hr2
  clear hr
  cases hb39:Nat.beq e0 27 with
  | false=>rw [hb39] at hr2;cases hr2
  | true =>
  obtain rfl:=Nat.eq_of_beq_eq_true hb39
  rw [hb39] at hr2
  cases hr2
  have hmax:(1099511627776:Nat)≤maxLen:=by decide
  refine Or.inr ⟨1,LL (grnd l),_,rfl,fun h=>?_,fun w S T mo u vs hS hT hrow hl=>?_⟩
  ·have:l=[]:=by simpa [LL] using h
   subst this;rfl
  obtain rfl:=zcs hl
  simp only [Array.append_empty]
  cases mo with
  | none =>
   obtain ⟨_,⟨_,A,rfl⟩,hn⟩:=hrow
   have hz:l=[]:=by simpa [LL] using hn
   subst hz
   refine ((bare 8).plain 163 _ _ n110 w S T #[.slice A 0 0] hS hT ⟨rfl,fun j a ha=>?_⟩ trivial).mono fun e w' ⟨v,S',mr,he,hb,hs1,_,hr,_⟩=>?_
   ·cases j with
    | zero=>cases ha;exact ⟨_,rfl,RD.nil A 1⟩
    | succ j=>simp at ha
   ·obtain ⟨⟨us,h1,h2,h3⟩,_⟩:=hr
    obtain ⟨u,hu,hone⟩:=h3 0 _ rfl
    simp only [List.length_cons,List.length_nil] at h2
    obtain ⟨u',rfl⟩:=List.length_eq_one_iff.1 h2
    simp only [List.getElem?_cons_zero,Option.some.injEq] at hu
    subst hu
    obtain ⟨x,hx,hrl⟩:=hone
    cases hx
    obtain ⟨z1,z2,z3⟩:rowC w' S' T w.heap.size (mr 0 0) 27 1 [] u':=hrl
    refine ⟨u',mr 0 0,by rw [he,h1],hb,fun b' hb'=>?_,⟨z1,z2,?_⟩,fun b cur b' cur' hb0=>by cases hb0⟩
    ·rw [hb'] at z3;exact z3.1
    ·cases hm:mr 0 0 with
     | none=>rfl
     | some b' =>
      rw [hm] at z3
      obtain ⟨y1,y2,cur,y3,y4,y5⟩:=z3
      exact ⟨Nat.zero_le _,fun h=>y2 (hs1 _ h),cur,y3,by simp [LL,grnd],fun i c x hx=>by simp [LL,grnd,zk] at hx⟩
  | some b =>
   obtain ⟨_,⟨cap,cur,rfl,hc,h1,h2,h3⟩,_,hnS,cur',hc',h5,h6⟩:=hrow
   rw [zx] at *
   rw [hc] at hc'
   cases hc'
   have hblk:b < w.heap.size:=zY hc
   have h1:l.length≤cap:=h1
   have h5':l.length * 1≤cur.size:=h5
   have hcell:∀ i zs,l[i]? = some zs→∃ v,cur[i]? = some v∧RD w S T v (.list 1 (I1 zs)):=fun i zs hz=>by
    obtain ⟨_,v,hv,hrd⟩:=h6 i 0 _ (zcn hz)
    rw [Nat.mul_one,Nat.add_zero] at hv
    exact ⟨v,hv,hrd⟩
   let hs0:List Value:=cur.toList.take l.length
   have hhs:∀ i,i < l.length→hs0[i]? = cur[i]? := fun i hi=>by
    show (cur.toList.take l.length)[i]? = _
    rw [List.getElem?_take_of_lt hi,Array.getElem?_toList]
   have hhl:hs0.length=l.length:=by
    show (cur.toList.take l.length).length=_
    have hcl:cur.toList.length=cur.size:=Array.length_toList
    rw [List.length_take]
    omega
   have hat:∀ i v,hs0[i]? = some v→∃ zs,l[i]? = some zs∧cur[i]? = some v∧RD w S T v (.list 1 (I1 zs)):=fun i v hv=>by
    have hi:i < l.length:=by rw [← hhl];exact (List.getElem?_eq_some_iff.1 hv).1
    obtain ⟨v',hv',hr'⟩:=hcell i _ (List.getElem?_eq_getElem hi)
    rw [hhs i hi] at hv
    rw [hv] at hv'
    cases hv'
    exact ⟨_,List.getElem?_eq_getElem hi,hv,hr'⟩
   have hcall:=Tryz.groundRows b l.length cap hs0 (fun i=>(l.getD i []).any Ovi.neg) w hhl h1 hlen hblk (fun i v hv=>by
     obtain ⟨zs,_,hv',_⟩:=hat i v hv
     simpa [World.cell?, hc] using hv') (fun v hv=>by
     obtain ⟨i,hi⟩:=List.mem_iff_getElem?.1 hv
     obtain ⟨zs,_,_,hr'⟩:=hat i v hi
     obtain ⟨A,c,hv',_⟩:RI w S v zs:=RD.ri hr'
     exact ⟨A,_,c,hv'⟩) (fun i v hv W hW=>by
     obtain ⟨zs,hz,_,hr'⟩:=hat i v hv
     have hzl:=hlz _ (List.mem_of_getElem? hz)
     have he:=n163 (k:=zs.length+1) zs (by omega) (by omega)
     have hg:l.getD i []=zs:=by rw [List.getD_eq_getElem?_getD,hz];rfl
     rw [hg]
     refine ((bare _).plain 129 _ _ he W S (fun _=>False) #[v,.func (.func 145) #[] #[]] (fun k hk=>Nat.lt_of_lt_of_le (hS k hk) hW.size) (fun _ h=>h.elim) ⟨rfl,fun j a ha=>?_⟩ trivial).mono fun e w' ⟨v',S',mr,he',hb',_,_,hr,_⟩=>?_
     ·match j,ha with
      | 0,ha =>
       cases ha
       have hx:RD W S T v (.list 1 (I1 zs)):=by
        obtain ⟨A,c,rfl,h⟩:RI w S v zs:=RD.ri hr'
        exact RI.rd (RI.stab ⟨A,c,rfl,h⟩ fun k hk=>hW.block k (hS k hk))
       exact ⟨v,rfl,hx.noFn rfl⟩
      | 1,ha=>cases ha;exact ⟨_,rfl,RD.fn 145 #[] [] (fun _ _=>undef) rfl (fun j xs h=>by simp at h) (fun j c x h=>by simp [zk] at h)⟩
      | j+2,ha=>simp at ha
     ·obtain ⟨⟨us,g1,g2,g3⟩,_⟩:=hr
      obtain ⟨u,hu,hone⟩:=g3 0 _ rfl
      simp only [List.length_cons,List.length_nil] at g2
      obtain ⟨u',rfl⟩:=List.length_eq_one_iff.1 g2
      simp only [List.getElem?_cons_zero,Option.some.injEq] at hu
      subst hu
      obtain ⟨x,hx,hrl⟩:=hone
      cases hx
      cases hrl
      exact ⟨by rw [he',g1],hb'⟩)
   rw [zjL] at hcall
   refine hcall.mono fun ex w' ⟨v,he,hb,hown⟩=>?_
   have hgl:(grnd l).length=(zdZ (fun i=>(l.getD i []).any Ovi.neg) l.length).length:=by rw [zk7,List.length_map]
   generalize hI:zdZ (fun i=>(l.getD i []).any Ovi.neg) l.length=I at hown hgl
   have hIn:I.Nodup:=by rw [← hI];exact zkR _ _
   have hIl:∀ i∈I,i < l.length:=fun i hi=>by rw [← hI] at hi;exact zng hi
   have hy:∀ j i,I[j]? = some i→(grnd l)[j]? = l[i]? := fun j i hj=>by
    have:=hIl i (List.mem_of_getElem? hj)
    rw [zk7,hI,List.getElem?_map,hj,List.getElem?_eq_getElem this]
    simp [List.getD_eq_getElem?_getD,this]
   rw [List.length_map] at hown
   obtain ⟨_,hown⟩:=hown
   rcases hown with ⟨rfl,h0⟩ | ⟨g,cap2,cur2,rfl,k2,k3,k4,k5,k6,k7⟩
   ·have h00:grnd l=[]:=List.eq_nil_of_length_eq_zero (by omega)
    exact ⟨_,none,he,hb,(fun b' hb'=>by cases hb'),⟨zcg _,⟨by rw [h00];rfl,none,rfl⟩,by rw [h00];rfl⟩,fun b0 cur0 b' cur' _ hb'=>by cases hb'⟩
   ·have hcur2:∀ j i,I[j]? = some i→cur2[j]? = cur[i]? := fun j i hj=>by
     have hjl:=(List.getElem?_eq_some_iff.1 hj).1
     have hi:=hIl i (List.mem_of_getElem? hj)
     have:=congrArg (fun z:List Value=>z[j]?) k7
     simp only [Nat.mul_one] at this
     rw [List.getElem?_take_of_lt (by omega),Array.getElem?_toList,List.getElem?_map,hj] at this
     rw [this,← hhs i hi,List.getElem?_eq_getElem (by omega)]
     simp [List.getD_eq_getElem?_getD,List.getElem?_eq_getElem (show i < hs0.length by omega)]
    have hidx:∀ j,j < (grnd l).length→∃ i,I[j]? = some i:=fun j hj=>⟨_,List.getElem?_eq_getElem (by omega)⟩
    refine ⟨_,some g,he,hb,fun b' hb'=>by cases hb';exact k2,⟨zcg _,?_,Nat.zero_le _,fun h=>by have:=hS g h;omega,cur2,k3,by rw [zx,hgl];omega,fun j c x hx=>?_⟩,?_⟩
    ·rw [zx,hgl]
     exact ⟨cap2,cur2,rfl,k3,k4,k5,k6⟩
    ·obtain ⟨rfl,zs,hz,rfl⟩:=zbu hx
     obtain ⟨i,hi⟩:=hidx j (List.getElem?_eq_some_iff.1 hz).1
     rw [hy j i hi] at hz
     obtain ⟨v0,hv0,hr0⟩:=hcell i zs hz
     refine ⟨rfl,v0,by rw [Nat.mul_one,Nat.add_zero,hcur2 j i hi];exact hv0,?_⟩
     exact hr0.mono (fun k hk=>hb.block k (hS k hk)) (fun k hk=>hb.block k (hT k hk)) (fun _ h=>h) fun _ h=>h
    ·intro b0 cur0 b1 cur1 hb0 hb1 hc0 hc1
     cases hb0
     cases hb1
     rw [hc] at hc0
     cases hc0
     rw [k3] at hc1
     cases hc1
     refine ⟨fun j=>I.getD j 0,fun j j' hj hj' he=>?_,fun j hj c x hx=>?_⟩
     ·rw [zx] at hj hj'
      obtain ⟨i,hi⟩:=hidx j hj
      obtain ⟨i',hi'⟩:=hidx j' hj'
      simp only [List.getD_eq_getElem?_getD,hi,hi',Option.getD_some] at he
      subst he
      exact (List.getElem?_inj (by omega) hIn).1 (hi.trans hi'.symm)
     ·obtain ⟨rfl,zs,hz,rfl⟩:=zbu hx
      rw [zx] at hj
      obtain ⟨i,hi⟩:=hidx j hj
      simp only [List.getD_eq_getElem?_getD,hi,Option.getD_some]
      rw [hy j i hi] at hz
      exact ⟨zcn hz,.inl (by rw [Nat.mul_one,Nat.add_zero,Nat.mul_one,Nat.add_zero];exact hcur2 j i hi)⟩
end Go.Proofs.YtiacahdabflcdaaGreat.Q
namespace Go.Proofs
open Go.Shelf Go.RowKit Go.Lib Ovi
set_option maxHeartbeats 4000000 in
set_option maxRecDepth 1000000 in
theorem Tryz.mIntS:ListC Tryz.prog 19 1 (zR zaZ):=by
 intro w v xs B n k xs' k' hd hf hr hm hk hk2 hB
 rcases Fo.rows hd hf hr with ⟨rfl,A,cap,rfl⟩ | ⟨b,cap,e,g,rfl,hle,hcap,hBb,hgB,hrow⟩
 ·cases hm
  go_enter Tryz.func19,Tryz.ntmps19
  go_wp2
  go_loopg [1,5] 0 (fun g s1 s5 wr=>s1=.int .i64 k∧s5=.int .i64 0∧wr=w)
  case atStart=>exact ⟨rfl,rfl,rfl⟩
  case round =>
   obtain ⟨rfl,rfl,rfl⟩:=hrel
   go_wp2
   go_ret
   exact ⟨rfl,Ovi.But.refl _ _,hr,_,hd,hf⟩
 ·have hcap':=hcap
  unfold maxLen at hcap'
  have hl:=(z8 zaD hm).2
  generalize hN:xs.length=N at *
  go_enter Tryz.func19,Tryz.ntmps19
  go_wp2
  go_loopg [1,5] N (fun gk s1 s5 wr=>∃ (i:Nat) (ys:Ovi.Rows) (k1:Int),i≤N∧N - i≤gk∧s5=.int .i64 i∧s1=.int .i64 k1∧mkN zaZ i xs k=some (ys,k1)∧Ovi.But B w wr∧RowG wr NT b cap e 1 ys g)
  case atStart=>exact ⟨0,xs,k,by omega,by omega,rfl,rfl,rfl,Ovi.But.refl _ _,hrow⟩
  case round =>
   obtain ⟨i,ys,k1,hi,hg,rfl,rfl,hmk,hbut0,hrow0⟩:=hrel
   by_cases hlt:i < N
   ·obtain ⟨r,r',k2,hyr,hst,hmk2,b1,b2,b3,_⟩:=zcd zaD hm hmk (by omega)
    obtain ⟨z0,rfl,rfl,rfl⟩:=zdG hst
    have hx0_0:zk ys i 0=some (.int .i64 z0):=by simp [zk,hyr]
    obtain ⟨u0,hc0,hf0,_⟩:=hrow0.at hx0_0
    have hrow1:=hrow0.set (fun h=>h) hx0_0 (v:=.int .i64 k1) (d:=.int .i64 k1) rfl (.int _ _)
    have hbut1:Ovi.But B w ((wr).setCell ⟨b,i * 1+0,none⟩ (.int .i64 k1)):=hbut0.trans (Ovi.But.setCell hBb)
    simp only [Nat.mul_one,Nat.add_zero] at hc0 hf0 hrow1 hbut1
    go_wp2
    go_roundg (N - i - 1)
    case measure=>omega
    case rel=>exact ⟨i+1,_,(k1+1),by omega,by omega,by go_num,by first | rfl | go_num,hmk2,hbut1,by rw [zaN hyr] at hrow1;simpa using hrow1⟩
   ·obtain rfl:i=N:=by omega
    go_wp2
    go_ret
    rw [← hN] at hmk
    have he:some (ys,k1)=some (xs',k'):=hmk.symm.trans hm
    cases he
    obtain ⟨q1,q2⟩:=hrow0.forest hcap hBb hgB
    rw [hl] at q1 q2
    exact ⟨rfl,hbut0,q1,q2⟩
set_option maxHeartbeats 4000000 in
set_option maxRecDepth 1000000 in
theorem Tryz.mFactS:ListC Tryz.prog 50 2 (zR zar):=by
 intro w v xs B n k xs' k' hd hf hr hm hk hk2 hB
 rcases Fo.rows hd hf hr with ⟨rfl,A,cap,rfl⟩ | ⟨b,cap,e,g,rfl,hle,hcap,hBb,hgB,hrow⟩
 ·cases hm
  go_enter Tryz.func50,Tryz.ntmps50
  go_wp2
  go_loopg [1,5] 0 (fun g s1 s5 wr=>s1=.int .i64 k∧s5=.int .i64 0∧wr=w)
  case atStart=>exact ⟨rfl,rfl,rfl⟩
  case round =>
   obtain ⟨rfl,rfl,rfl⟩:=hrel
   go_wp2
   go_ret
   exact ⟨rfl,Ovi.But.refl _ _,hr,_,hd,hf⟩
 ·have hcap':=hcap
  unfold maxLen at hcap'
  have hl:=(z8 zaC hm).2
  generalize hN:xs.length=N at *
  go_enter Tryz.func50,Tryz.ntmps50
  go_wp2
  go_loopg [1,5] N (fun gk s1 s5 wr=>∃ (i:Nat) (ys:Ovi.Rows) (k1:Int),i≤N∧N - i≤gk∧s5=.int .i64 i∧s1=.int .i64 k1∧mkN zar i xs k=some (ys,k1)∧Ovi.But B w wr∧RowG wr NT b cap e 2 ys g)
  case atStart=>exact ⟨0,xs,k,by omega,by omega,rfl,rfl,rfl,Ovi.But.refl _ _,hrow⟩
  case round =>
   obtain ⟨i,ys,k1,hi,hg,rfl,rfl,hmk,hbut0,hrow0⟩:=hrel
   by_cases hlt:i < N
   ·obtain ⟨r,r',k2,hyr,hst,hmk2,b1,b2,b3,_⟩:=zcd zaC hm hmk (by omega)
    obtain ⟨z0,l1,l1',rfl,hl1,rfl⟩:=zc0 hst
    have hx0_0:zk ys i 0=some (.int .i64 z0):=by simp [zk,hyr]
    have hx1_0:zk ys i 1=some (.list 1 l1):=by simp [zk,hyr]
    have hup1:=(z8 zaD hl1).1
    obtain ⟨u0,hc0,hf0,_⟩:=hrow0.at hx0_0
    have hrow1:=hrow0.set (fun h=>h) hx0_0 (v:=.int .i64 k1) (d:=.int .i64 k1) rfl (.int _ _)
    have hbut1:Ovi.But B w ((wr).setCell ⟨b,i * 2+0,none⟩ (.int .i64 k1)):=hbut0.trans (Ovi.But.setCell hBb)
    have hx1_1:=zam (d:=.int .i64 k1) hx1_0 (by decide:1≠0)
    obtain ⟨u1,hc1,hf1,hr1,n1,hd1,ho1⟩:=hrow1.at hx1_1
    have hglt1:∀ j c' k,g j c' k→k < ((wr).setCell ⟨b,i * 2+0,none⟩ (.int .i64 k1)).heap.size:=fun j c' k hk=>Nat.lt_of_lt_of_le (hB k (hgB j c' k hk)) hbut1.size
    have hcall1:=Tryz.mIntS _ u1 l1 (g i 1) n1 (k1+1) l1' k2 hd1 ho1 hr1 hl1 (by omega) (by omega) (fun k hk=>hglt1 i 1 k hk)
    simp only [Nat.mul_one,Nat.add_zero] at hc0 hf0 hrow1 hbut1 hc1 hf1 hcall1 hglt1
    go_wp2_with (
     go_at_call 19
     refine hcall1.mono ?_
     rintro ex1 w1 ⟨rfl,hbc1,hrr1,nn1,hdd1,hoo1⟩
     have hrow2:=hrow1.call (fun k hk=>hk.elim) hx1_1 (by omega) hc1 hbc1 hglt1 hrr1 hdd1 hoo1
     have hbut2:=hbut1.trans (hbc1.mono fun k hk=>hgB i 1 k hk))
    go_roundg (N - i - 1)
    case measure=>omega
    case rel=>exact ⟨i+1,_,k2,by omega,by omega,by go_num,by first | rfl | go_num,hmk2,hbut2,by rw [zaN hyr,zaN (za1 hyr)] at hrow2;simpa using hrow2⟩
   ·obtain rfl:i=N:=by omega
    go_wp2
    go_ret
    rw [← hN] at hmk
    have he:some (ys,k1)=some (xs',k'):=hmk.symm.trans hm
    cases he
    obtain ⟨q1,q2⟩:=hrow0.forest hcap hBb hgB
    rw [hl] at q1 q2
    exact ⟨rfl,hbut0,q1,q2⟩
set_option maxHeartbeats 4000000 in
set_option maxRecDepth 1000000 in
theorem Tryz.mAtomS:ListC Tryz.prog 51 2 (zR zar):=by
 intro w v xs B n k xs' k' hd hf hr hm hk hk2 hB
 rcases Fo.rows hd hf hr with ⟨rfl,A,cap,rfl⟩ | ⟨b,cap,e,g,rfl,hle,hcap,hBb,hgB,hrow⟩
 ·cases hm
  go_enter Tryz.func51,Tryz.ntmps51
  go_wp2
  go_loopg [1,5] 0 (fun g s1 s5 wr=>s1=.int .i64 k∧s5=.int .i64 0∧wr=w)
  case atStart=>exact ⟨rfl,rfl,rfl⟩
  case round =>
   obtain ⟨rfl,rfl,rfl⟩:=hrel
   go_wp2
   go_ret
   exact ⟨rfl,Ovi.But.refl _ _,hr,_,hd,hf⟩
 ·have hcap':=hcap
  unfold maxLen at hcap'
  have hl:=(z8 zaC hm).2
  generalize hN:xs.length=N at *
  go_enter Tryz.func51,Tryz.ntmps51
  go_wp2
  go_loopg [1,5] N (fun gk s1 s5 wr=>∃ (i:Nat) (ys:Ovi.Rows) (k1:Int),i≤N∧N - i≤gk∧s5=.int .i64 i∧s1=.int .i64 k1∧mkN zar i xs k=some (ys,k1)∧Ovi.But B w wr∧RowG wr NT b cap e 2 ys g)
  case atStart=>exact ⟨0,xs,k,by omega,by omega,rfl,rfl,rfl,Ovi.But.refl _ _,hrow⟩
  case round =>
   obtain ⟨i,ys,k1,hi,hg,rfl,rfl,hmk,hbut0,hrow0⟩:=hrel
   by_cases hlt:i < N
   ·obtain ⟨r,r',k2,hyr,hst,hmk2,b1,b2,b3,_⟩:=zcd zaC hm hmk (by omega)
    obtain ⟨z0,l1,l1',rfl,hl1,rfl⟩:=zc0 hst
    have hx0_0:zk ys i 0=some (.int .i64 z0):=by simp [zk,hyr]
    have hx1_0:zk ys i 1=some (.list 1 l1):=by simp [zk,hyr]
    have hup1:=(z8 zaD hl1).1
    obtain ⟨u0,hc0,hf0,_⟩:=hrow0.at hx0_0
    have hrow1:=hrow0.set (fun h=>h) hx0_0 (v:=.int .i64 k1) (d:=.int .i64 k1) rfl (.int _ _)
    have hbut1:Ovi.But B w ((wr).setCell ⟨b,i * 2+0,none⟩ (.int .i64 k1)):=hbut0.trans (Ovi.But.setCell hBb)
    have hx1_1:=zam (d:=.int .i64 k1) hx1_0 (by decide:1≠0)
    obtain ⟨u1,hc1,hf1,hr1,n1,hd1,ho1⟩:=hrow1.at hx1_1
    have hglt1:∀ j c' k,g j c' k→k < ((wr).setCell ⟨b,i * 2+0,none⟩ (.int .i64 k1)).heap.size:=fun j c' k hk=>Nat.lt_of_lt_of_le (hB k (hgB j c' k hk)) hbut1.size
    have hcall1:=Tryz.mIntS _ u1 l1 (g i 1) n1 (k1+1) l1' k2 hd1 ho1 hr1 hl1 (by omega) (by omega) (fun k hk=>hglt1 i 1 k hk)
    simp only [Nat.mul_one,Nat.add_zero] at hc0 hf0 hrow1 hbut1 hc1 hf1 hcall1 hglt1
    go_wp2_with (
     go_at_call 19
     refine hcall1.mono ?_
     rintro ex1 w1 ⟨rfl,hbc1,hrr1,nn1,hdd1,hoo1⟩
     have hrow2:=hrow1.call (fun k hk=>hk.elim) hx1_1 (by omega) hc1 hbc1 hglt1 hrr1 hdd1 hoo1
     have hbut2:=hbut1.trans (hbc1.mono fun k hk=>hgB i 1 k hk))
    go_roundg (N - i - 1)
    case measure=>omega
    case rel=>exact ⟨i+1,_,k2,by omega,by omega,by go_num,by first | rfl | go_num,hmk2,hbut2,by rw [zaN hyr,zaN (za1 hyr)] at hrow2;simpa using hrow2⟩
   ·obtain rfl:i=N:=by omega
    go_wp2
    go_ret
    rw [← hN] at hmk
    have he:some (ys,k1)=some (xs',k'):=hmk.symm.trans hm
    cases he
    obtain ⟨q1,q2⟩:=hrow0.forest hcap hBb hgB
    rw [hl] at q1 q2
    exact ⟨rfl,hbut0,q1,q2⟩
set_option maxHeartbeats 4000000 in
set_option maxRecDepth 1000000 in
theorem Tryz.mRelationS {mt:Int→List UInt8} (ht:∀ (w:World) (k:Int),0≤k→k≤4611686018427387904→Calls Tryz.prog 97 #[.int .i64 k] w fun e w'=>e=.returned (.string ⟨(mt k).toArray⟩)∧Below w.heap.size w w'):ListC Tryz.prog 49 3 (zR (zbC mt)):=by
 intro w v xs B n k xs' k' hd hf hr hm hk hk2 hB
 rcases Fo.rows hd hf hr with ⟨rfl,A,cap,rfl⟩ | ⟨b,cap,e,g,rfl,hle,hcap,hBb,hgB,hrow⟩
 ·cases hm
  go_enter Tryz.func49,Tryz.ntmps49
  go_wp2
  go_loopg [1,5] 0 (fun g s1 s5 wr=>s1=.int .i64 k∧s5=.int .i64 0∧wr=w)
  case atStart=>exact ⟨rfl,rfl,rfl⟩
  case round =>
   obtain ⟨rfl,rfl,rfl⟩:=hrel
   go_wp2
   go_ret
   exact ⟨rfl,Ovi.But.refl _ _,hr,_,hd,hf⟩
 ·have hcap':=hcap
  unfold maxLen at hcap'
  have hl:=(z8 zfe hm).2
  generalize hN:xs.length=N at *
  go_enter Tryz.func49,Tryz.ntmps49
  go_wp2
  go_loopg [1,5] N (fun gk s1 s5 wr=>∃ (i:Nat) (ys:Ovi.Rows) (k1:Int),i≤N∧N - i≤gk∧s5=.int .i64 i∧s1=.int .i64 k1∧mkN (zbC mt) i xs k=some (ys,k1)∧Ovi.But B w wr∧RowG wr NT b cap e 3 ys g)
  case atStart=>exact ⟨0,xs,k,by omega,by omega,rfl,rfl,rfl,Ovi.But.refl _ _,hrow⟩
  case round =>
   obtain ⟨i,ys,k1,hi,hg,rfl,rfl,hmk,hbut0,hrow0⟩:=hrel
   by_cases hlt:i < N
   ·obtain ⟨r,r',k2,hyr,hst,hmk2,b1,b2,b3,_⟩:=zcd zfe hm hmk (by omega)
    obtain ⟨s0,z1,t2,rfl,rfl,rfl⟩:=zf3 hst
    have hx0_0:zk ys i 0=some (.str s0):=by simp [zk,hyr]
    have hx1_0:zk ys i 1=some (.int .i64 z1):=by simp [zk,hyr]
    have hx2_0:zk ys i 2=some (.bool t2):=by simp [zk,hyr]
    have ht0:=ht (wr) k1 (by omega) (by omega)
    go_wp2_with (
     go_at_call 97
     refine ht0.mono ?_
     rintro ex0 w0 ⟨rfl,hbel0⟩
     have hbut1:=hbut0.trans (Ovi.But.of_below hbel0)
     have hrow1:=hrow0.world (w':=w0) (fun k hk=>hk.elim) (hbel0.block _ hrow0.lt) (fun j c' k hk=>hbel0.block _ (Nat.lt_of_lt_of_le (hB k (hgB j c' k hk)) hbut0.size))
     obtain ⟨u0,hc0,hf0,_⟩:=hrow1.at hx0_0
     have hrow2:=hrow1.set (fun h=>h) hx0_0 (v:=.string ⟨(mt k1).toArray⟩) (d:=.str (mt k1)) rfl (by have:=RD.str (w:=w0) (S:=NT) (T:=NT) ⟨(mt k1).toArray⟩;simpa using this)
     have hbut2:Ovi.But B w ((w0).setCell ⟨b,i * 3+0,none⟩ (.string ⟨(mt k1).toArray⟩)):=hbut1.trans (Ovi.But.setCell hBb)
     have hx1_1:=zam (d:=.str (mt k1)) hx1_0 (by decide:1≠0)
     have hx2_1:=zam (d:=.str (mt k1)) hx2_0 (by decide:2≠0)
     obtain ⟨u1,hc1,hf1,_⟩:=hrow2.at hx1_1
     have hrow3:=hrow2.set (fun h=>h) hx1_1 (v:=.int .i64 (k1+1)) (d:=.int .i64 (k1+1)) rfl (.int _ _)
     have hbut3:Ovi.But B w (((w0).setCell ⟨b,i * 3+0,none⟩ (.string ⟨(mt k1).toArray⟩)).setCell ⟨b,i * 3+1,none⟩ (.int .i64 (k1+1))):=hbut2.trans (Ovi.But.setCell hBb)
     have hx2_2:=zam (d:=.int .i64 (k1+1)) hx2_1 (by decide:2≠1)
     obtain ⟨u2,hc2,hf2,_⟩:=hrow3.at hx2_2
     have hrow4:=hrow3.set (fun h=>h) hx2_2 (v:=.bool ((k1+1+1) % 3==0)) (d:=.bool ((k1+1+1) % 3==0)) rfl (.bool _)
     have hbut4:Ovi.But B w ((((w0).setCell ⟨b,i * 3+0,none⟩ (.string ⟨(mt k1).toArray⟩)).setCell ⟨b,i * 3+1,none⟩ (.int .i64 (k1+1))).setCell ⟨b,i * 3+2,none⟩ (.bool ((k1+1+1) % 3==0))):=hbut3.trans (Ovi.But.setCell hBb)
     simp only [Nat.mul_one,Nat.add_zero] at hc0 hf0 hrow2 hbut2 hc1 hf1 hrow3 hbut3 hc2 hf2 hrow4 hbut4)
    go_roundg (N - i - 1)
    case measure=>omega
    case rel=>exact ⟨i+1,_,(k1+1+1+1),by omega,by omega,by go_num,by first | rfl | go_num,hmk2,hbut4,by rw [zaN hyr,zaN (za1 hyr),zaN (za1 (za1 hyr))] at hrow4;simpa using hrow4⟩
   ·obtain rfl:i=N:=by omega
    go_wp2
    go_ret
    rw [← hN] at hmk
    have he:some (ys,k1)=some (xs',k'):=hmk.symm.trans hm
    cases he
    obtain ⟨q1,q2⟩:=hrow0.forest hcap hBb hgB
    rw [hl] at q1 q2
    exact ⟨rfl,hbut0,q1,q2⟩
set_option maxHeartbeats 4000000 in
set_option maxRecDepth 1000000 in
theorem Tryz.mInstance {mt:Int→List UInt8} (ht:∀ (w:World) (k:Int),0≤k→k≤4611686018427387904→Calls Tryz.prog 97 #[.int .i64 k] w fun e w'=>e=.returned (.string ⟨(mt k).toArray⟩)∧Below w.heap.size w w'):AggC Tryz.prog 17 (zbo mt):=by
 intro w us ds G k ds' k' hsz hcells hdis hlt hm hk hk2
 obtain ⟨x0,x1,y0,k1,y1,rfl,h1,h2,rfl⟩:=zfo hm
 have up1:=(z8 zfe h1).1
 have up2:=(z8 zaC h2).1
 obtain ⟨u0,hu0,c0⟩:=hcells 0 _ rfl
 obtain ⟨u1,hu1,c1⟩:=hcells 1 _ rfl
 have hus:us=#[u0,u1]:=by
  apply Array.ext_getElem?
  intro i
  match i with
  | 0=>exact hu0
  | 1=>exact hu1
  | i+2=>rw [Array.getElem?_eq_none (by rw [hsz];simp),Array.getElem?_eq_none (by simp)]
 subst hus
 have hb0:Ovi.But (fun _=>False) w (w.alloc (.cells #[u0,u1] 33 (0,0))):=Ovi.But.of_below ((Below.refl _ w).alloc (Nat.le_refl _) _)
 have hnew:∀ c k,G c k→k≠w.heap.size:=fun c k hk he=>by have:=hlt c k hk;omega
 have c0:CellF (w.alloc (.cells #[u0,u1] 33 (0,0))) (G 0) u0 _:=CellF.but c0 hb0 (hlt 0) (fun _ _ h=>h)
 have c1:CellF (w.alloc (.cells #[u0,u1] 33 (0,0))) (G 1) u1 _:=CellF.but c1 hb0 (hlt 1) (fun _ _ h=>h)
 have hlt1:∀ c b,G c b→b < (w.alloc (.cells #[u0,u1] 33 (0,0))).heap.size:=fun c b hb=>Nat.lt_of_lt_of_le (hlt c b hb) hb0.size
 have l0:(w.alloc (.cells #[u0,u1] 33 (0,0))).cell? ⟨w.heap.size,0,none⟩=some u0:=zht w _ _ rfl
 have l1:(w.alloc (.cells #[u0,u1] 33 (0,0))).cell? ⟨w.heap.size,1,none⟩=some u1:=zht w _ _ rfl
 obtain ⟨r0,n0,d0,f0⟩:=c0
 have hcall0:=Tryz.mRelationS ht _ u0 x0 (G 0) n0 k y0 k1 d0 f0 r0 h1 hk (by omega) (hlt1 0)
 clear ht
 go_enter Tryz.func17,Tryz.ntmps17
 go_wp2_with (
  go_at_call 49
  refine hcall0.mono ?_
  rintro e1 w1 ⟨rfl,b1,r1,n1,d1,f1⟩
  have l1':=b1.cell (fun h=>hnew _ _ h rfl) l1
  have c1':=c1.but b1 (hlt1 1) (fun k h h'=>absurd (hdis _ _ _ h h') (by decide))
  obtain ⟨r2,n2,d2,f2⟩:=c1'
  have hlt2:∀ c b,G c b→b < w1.heap.size:=fun c b hb=>Nat.lt_of_lt_of_le (hlt1 c b hb) b1.size
  have hcall1:=Tryz.mFactS _ u1 x1 (G 1) n2 k1 y1 k' d2 f2 r2 h2 (by omega) hk2 (hlt2 1))
 refine hcall1.mono ?_
 rintro e2 w2 ⟨rfl,b2,r3,n3,d3,f3⟩
 go_wp2
 go_ret
 have c0'':=CellF.but (B:=G 0) ⟨r1,n1,d1,f1⟩ b2 (hlt2 0) (fun k h h'=>absurd (hdis _ _ _ h h') (by decide))
 refine ⟨rfl,((hb0.mono fun _ h=>h.elim).trans (b1.mono fun k h=>⟨0,h⟩)).trans (b2.mono fun k h=>⟨1,h⟩),fun c x hx=>?_⟩
 match c,hx with
 | 0,hx=>cases hx;exact ⟨u0,rfl,c0''⟩
 | 1,hx=>cases hx;exact ⟨u1,rfl,r3,n3,d3,f3⟩
 | c+2,hx=>simp at hx
set_option maxHeartbeats 4000000 in
set_option maxRecDepth 1000000 in
theorem Tryz.mIntSS:ListC Tryz.prog 31 1 (zR zaM):=by
 intro w v xs B n k xs' k' hd hf hr hm hk hk2 hB
 rcases Fo.rows hd hf hr with ⟨rfl,A,cap,rfl⟩ | ⟨b,cap,e,g,rfl,hle,hcap,hBb,hgB,hrow⟩
 ·cases hm
  go_enter Tryz.func31,Tryz.ntmps31
  go_wp2
  go_loopg [1,5] 0 (fun g s1 s5 wr=>s1=.int .i64 k∧s5=.int .i64 0∧wr=w)
  case atStart=>exact ⟨rfl,rfl,rfl⟩
  case round =>
   obtain ⟨rfl,rfl,rfl⟩:=hrel
   go_wp2
   go_ret
   exact ⟨rfl,Ovi.But.refl _ _,hr,_,hd,hf⟩
 ·have hcap':=hcap
  unfold maxLen at hcap'
  have hl:=(z8 zb7 hm).2
  generalize hN:xs.length=N at *
  go_enter Tryz.func31,Tryz.ntmps31
  go_wp2
  go_loopg [1,5] N (fun gk s1 s5 wr=>∃ (i:Nat) (ys:Ovi.Rows) (k1:Int),i≤N∧N - i≤gk∧s5=.int .i64 i∧s1=.int .i64 k1∧mkN zaM i xs k=some (ys,k1)∧Ovi.But B w wr∧RowG wr NT b cap e 1 ys g)
  case atStart=>exact ⟨0,xs,k,by omega,by omega,rfl,rfl,rfl,Ovi.But.refl _ _,hrow⟩
  case round =>
   obtain ⟨i,ys,k1,hi,hg,rfl,rfl,hmk,hbut0,hrow0⟩:=hrel
   by_cases hlt:i < N
   ·obtain ⟨r,r',k2,hyr,hst,hmk2,b1,b2,b3,_⟩:=zcd zb7 hm hmk (by omega)
    obtain ⟨l0,l0',rfl,hl0,rfl⟩:=zc1 hst
    have hx0_0:zk ys i 0=some (.list 1 l0):=by simp [zk,hyr]
    have hup0:=(z8 zaD hl0).1
    obtain ⟨u0,hc0,hf0,hr0,n0,hd0,ho0⟩:=hrow0.at hx0_0
    have hglt0:∀ j c' k,g j c' k→k < (wr).heap.size:=fun j c' k hk=>Nat.lt_of_lt_of_le (hB k (hgB j c' k hk)) hbut0.size
    have hcall0:=Tryz.mIntS _ u0 l0 (g i 0) n0 k1 l0' k2 hd0 ho0 hr0 hl0 (by omega) (by omega) (fun k hk=>hglt0 i 0 k hk)
    simp only [Nat.mul_one,Nat.add_zero] at hc0 hf0 hcall0 hglt0
    go_wp2_with (
     go_at_call 19
     refine hcall0.mono ?_
     rintro ex0 w0 ⟨rfl,hbc0,hrr0,nn0,hdd0,hoo0⟩
     have hrow1:=hrow0.call (fun k hk=>hk.elim) hx0_0 (by omega) hc0 hbc0 hglt0 hrr0 hdd0 hoo0
     have hbut1:=hbut0.trans (hbc0.mono fun k hk=>hgB i 0 k hk))
    go_roundg (N - i - 1)
    case measure=>omega
    case rel=>exact ⟨i+1,_,k2,by omega,by omega,by go_num,by first | rfl | go_num,hmk2,hbut1,by rw [zaN hyr] at hrow1;simpa using hrow1⟩
   ·obtain rfl:i=N:=by omega
    go_wp2
    go_ret
    rw [← hN] at hmk
    have he:some (ys,k1)=some (xs',k'):=hmk.symm.trans hm
    cases he
    obtain ⟨q1,q2⟩:=hrow0.forest hcap hBb hgB
    rw [hl] at q1 q2
    exact ⟨rfl,hbut0,q1,q2⟩
set_option maxHeartbeats 4000000 in
set_option maxRecDepth 1000000 in
theorem Tryz.mDepS:ListC Tryz.prog 18 5 (zR za8):=by
 intro w v xs B n k xs' k' hd hf hr hm hk hk2 hB
 rcases Fo.rows hd hf hr with ⟨rfl,A,cap,rfl⟩ | ⟨b,cap,e,g,rfl,hle,hcap,hBb,hgB,hrow⟩
 ·cases hm
  go_enter Tryz.func18,Tryz.ntmps18
  go_wp2
  go_loopg [1,5] 0 (fun g s1 s5 wr=>s1=.int .i64 k∧s5=.int .i64 0∧wr=w)
  case atStart=>exact ⟨rfl,rfl,rfl⟩
  case round =>
   obtain ⟨rfl,rfl,rfl⟩:=hrel
   go_wp2
   go_ret
   exact ⟨rfl,Ovi.But.refl _ _,hr,_,hd,hf⟩
 ·have hcap':=hcap
  unfold maxLen at hcap'
  have hl:=(z8 zig hm).2
  generalize hN:xs.length=N at *
  go_enter Tryz.func18,Tryz.ntmps18
  go_wp2
  go_loopg [1,5] N (fun gk s1 s5 wr=>∃ (i:Nat) (ys:Ovi.Rows) (k1:Int),i≤N∧N - i≤gk∧s5=.int .i64 i∧s1=.int .i64 k1∧mkN za8 i xs k=some (ys,k1)∧Ovi.But B w wr∧RowG wr NT b cap e 5 ys g)
  case atStart=>exact ⟨0,xs,k,by omega,by omega,rfl,rfl,rfl,Ovi.But.refl _ _,hrow⟩
  case round =>
   obtain ⟨i,ys,k1,hi,hg,rfl,rfl,hmk,hbut0,hrow0⟩:=hrel
   by_cases hlt:i < N
   ·obtain ⟨r,r',k2,hyr,hst,hmk2,b1,b2,b3,_⟩:=zcd zig hm hmk (by omega)
    obtain ⟨l0,l1,t2,z3,z4,l0',m1,l1',m2,rfl,hl0,hl1,rfl,rfl⟩:=zf1 hst
    have hx0_0:zk ys i 0=some (.list 2 l0):=by simp [zk,hyr]
    have hx1_0:zk ys i 1=some (.list 2 l1):=by simp [zk,hyr]
    have hx2_0:zk ys i 2=some (.bool t2):=by simp [zk,hyr]
    have hx3_0:zk ys i 3=some (.int .i64 z3):=by simp [zk,hyr]
    have hx4_0:zk ys i 4=some (.int .i64 z4):=by simp [zk,hyr]
    have hup0:=(z8 zaC hl0).1
    have hup1:=(z8 zaC hl1).1
    obtain ⟨u0,hc0,hf0,hr0,n0,hd0,ho0⟩:=hrow0.at hx0_0
    have hglt0:∀ j c' k,g j c' k→k < (wr).heap.size:=fun j c' k hk=>Nat.lt_of_lt_of_le (hB k (hgB j c' k hk)) hbut0.size
    have hcall0:=Tryz.mAtomS _ u0 l0 (g i 0) n0 k1 l0' m1 hd0 ho0 hr0 hl0 (by omega) (by omega) (fun k hk=>hglt0 i 0 k hk)
    simp only [Nat.mul_one,Nat.add_zero] at hc0 hf0 hcall0 hglt0
    go_wp2_with (
     go_at_call 51
     refine hcall0.mono ?_
     clear hcall0
     rintro ex0 w0 ⟨rfl,hbc0,hrr0,nn0,hdd0,hoo0⟩
     have hrow1:=hrow0.call (fun k hk=>hk.elim) hx0_0 (by omega) hc0 hbc0 hglt0 hrr0 hdd0 hoo0
     have hbut1:=hbut0.trans (hbc0.mono fun k hk=>hgB i 0 k hk)
     have hx1_1:=zam (d:=.list 2 l0') hx1_0 (by decide:1≠0)
     have hx2_1:=zam (d:=.list 2 l0') hx2_0 (by decide:2≠0)
     have hx3_1:=zam (d:=.list 2 l0') hx3_0 (by decide:3≠0)
     have hx4_1:=zam (d:=.list 2 l0') hx4_0 (by decide:4≠0)
     obtain ⟨u1,hc1,hf1,hr1,n1,hd1,ho1⟩:=hrow1.at hx1_1
     have hglt1:∀ j c' k,g j c' k→k < (w0).heap.size:=fun j c' k hk=>Nat.lt_of_lt_of_le (hB k (hgB j c' k hk)) hbut1.size
     have hcall1:=Tryz.mAtomS _ u1 l1 (g i 1) n1 m1 l1' m2 hd1 ho1 hr1 hl1 (by omega) (by omega) (fun k hk=>hglt1 i 1 k hk)
     try simp only [Nat.mul_one,Nat.add_zero] at hc1 hf1 hcall1 hglt1)
    go_wp2_with (
     go_at_call 51
     refine hcall1.mono ?_
     clear hcall1
     rintro ex1 w1 ⟨rfl,hbc1,hrr1,nn1,hdd1,hoo1⟩
     have hrow2:=hrow1.call (fun k hk=>hk.elim) hx1_1 (by omega) hc1 hbc1 hglt1 hrr1 hdd1 hoo1
     have hbut2:=hbut1.trans (hbc1.mono fun k hk=>hgB i 1 k hk)
     have hx2_2:=zam (d:=.list 2 l1') hx2_1 (by decide:2≠1)
     have hx3_2:=zam (d:=.list 2 l1') hx3_1 (by decide:3≠1)
     have hx4_2:=zam (d:=.list 2 l1') hx4_1 (by decide:4≠1)
     obtain ⟨u2,hc2,hf2,_⟩:=hrow2.at hx2_2
     have hrow3:=hrow2.set (fun h=>h) hx2_2 (v:=.bool (m2 % 3==0)) (d:=.bool (m2 % 3==0)) rfl (.bool _)
     have hbut3:Ovi.But B w ((w1).setCell ⟨b,i * 5+2,none⟩ (.bool (m2 % 3==0))):=hbut2.trans (Ovi.But.setCell hBb)
     have hx3_3:=zam (d:=.bool (m2 % 3==0)) hx3_2 (by decide:3≠2)
     have hx4_3:=zam (d:=.bool (m2 % 3==0)) hx4_2 (by decide:4≠2)
     obtain ⟨u3,hc3,hf3,_⟩:=hrow3.at hx3_3
     have hrow4:=hrow3.set (fun h=>h) hx3_3 (v:=.int .i64 (m2+1)) (d:=.int .i64 (m2+1)) rfl (.int _ _)
     have hbut4:Ovi.But B w (((w1).setCell ⟨b,i * 5+2,none⟩ (.bool (m2 % 3==0))).setCell ⟨b,i * 5+3,none⟩ (.int .i64 (m2+1))):=hbut3.trans (Ovi.But.setCell hBb)
     have hx4_4:=zam (d:=.int .i64 (m2+1)) hx4_3 (by decide:4≠3)
     obtain ⟨u4,hc4,hf4,_⟩:=hrow4.at hx4_4
     have hrow5:=hrow4.set (fun h=>h) hx4_4 (v:=.int .i64 (m2+1+1)) (d:=.int .i64 (m2+1+1)) rfl (.int _ _)
     have hbut5:Ovi.But B w ((((w1).setCell ⟨b,i * 5+2,none⟩ (.bool (m2 % 3==0))).setCell ⟨b,i * 5+3,none⟩ (.int .i64 (m2+1))).setCell ⟨b,i * 5+4,none⟩ (.int .i64 (m2+1+1))):=hbut4.trans (Ovi.But.setCell hBb)
     try simp only [Nat.mul_one,Nat.add_zero] at hc2 hf2 hrow3 hbut3 hc3 hf3 hrow4 hbut4 hc4 hf4 hrow5 hbut5)
    go_roundg (N - i - 1)
    case measure=>omega
    case rel=>exact ⟨i+1,_,(m2+1+1+1),by omega,by omega,by go_num,by first | rfl | go_num,hmk2,hbut5,by rw [zaN hyr,zaN (za1 hyr),zaN (za1 (za1 hyr)),zaN (za1 (za1 (za1 hyr))),zaN (za1 (za1 (za1 (za1 hyr))))] at hrow5;simpa using hrow5⟩
   ·obtain rfl:i=N:=by omega
    go_wp2
    go_ret
    rw [← hN] at hmk
    have he:some (ys,k1)=some (xs',k'):=hmk.symm.trans hm
    cases he
    obtain ⟨q1,q2⟩:=hrow0.forest hcap hBb hgB
    rw [hl] at q1 q2
    exact ⟨rfl,hbut0,q1,q2⟩
set_option maxHeartbeats 4000000 in
set_option maxRecDepth 1000000 in
theorem Tryz.mQueryS:ListC Tryz.prog 30 2 (zR zaB):=by
 intro w v xs B n k xs' k' hd hf hr hm hk hk2 hB
 rcases Fo.rows hd hf hr with ⟨rfl,A,cap,rfl⟩ | ⟨b,cap,e,g,rfl,hle,hcap,hBb,hgB,hrow⟩
 ·cases hm
  go_enter Tryz.func30,Tryz.ntmps30
  go_wp2
  go_loopg [1,5] 0 (fun g s1 s5 wr=>s1=.int .i64 k∧s5=.int .i64 0∧wr=w)
  case atStart=>exact ⟨rfl,rfl,rfl⟩
  case round =>
   obtain ⟨rfl,rfl,rfl⟩:=hrel
   go_wp2
   go_ret
   exact ⟨rfl,Ovi.But.refl _ _,hr,_,hd,hf⟩
 ·have hcap':=hcap
  unfold maxLen at hcap'
  have hl:=(z8 zf2 hm).2
  generalize hN:xs.length=N at *
  go_enter Tryz.func30,Tryz.ntmps30
  go_wp2
  go_loopg [1,5] N (fun gk s1 s5 wr=>∃ (i:Nat) (ys:Ovi.Rows) (k1:Int),i≤N∧N - i≤gk∧s5=.int .i64 i∧s1=.int .i64 k1∧mkN zaB i xs k=some (ys,k1)∧Ovi.But B w wr∧RowG wr NT b cap e 2 ys g)
  case atStart=>exact ⟨0,xs,k,by omega,by omega,rfl,rfl,rfl,Ovi.But.refl _ _,hrow⟩
  case round =>
   obtain ⟨i,ys,k1,hi,hg,rfl,rfl,hmk,hbut0,hrow0⟩:=hrel
   by_cases hlt:i < N
   ·obtain ⟨r,r',k2,hyr,hst,hmk2,b1,b2,b3,_⟩:=zcd zf2 hm hmk (by omega)
    obtain ⟨l0,l1,l0',m1,l1',rfl,hl0,hl1,rfl⟩:=ziK hst
    have hx0_0:zk ys i 0=some (.list 1 l0):=by simp [zk,hyr]
    have hx1_0:zk ys i 1=some (.list 2 l1):=by simp [zk,hyr]
    have hup0:=(z8 zaD hl0).1
    have hup1:=(z8 zaC hl1).1
    obtain ⟨u0,hc0,hf0,hr0,n0,hd0,ho0⟩:=hrow0.at hx0_0
    have hglt0:∀ j c' k,g j c' k→k < (wr).heap.size:=fun j c' k hk=>Nat.lt_of_lt_of_le (hB k (hgB j c' k hk)) hbut0.size
    have hcall0:=Tryz.mIntS _ u0 l0 (g i 0) n0 k1 l0' m1 hd0 ho0 hr0 hl0 (by omega) (by omega) (fun k hk=>hglt0 i 0 k hk)
    try simp only [Nat.mul_one,Nat.add_zero] at hc0 hf0 hcall0 hglt0
    go_wp2_with (
     go_at_call 19
     refine hcall0.mono ?_
     rintro ex0 w0 ⟨rfl,hbc0,hrr0,nn0,hdd0,hoo0⟩
     have hrow1:=hrow0.call (fun k hk=>hk.elim) hx0_0 (by omega) hc0 hbc0 hglt0 hrr0 hdd0 hoo0
     have hbut1:=hbut0.trans (hbc0.mono fun k hk=>hgB i 0 k hk)
     have hx1_1:=zam (d:=.list 1 l0') hx1_0 (by decide:1≠0)
     obtain ⟨u1,hc1,hf1,hr1,n1,hd1,ho1⟩:=hrow1.at hx1_1
     have hglt1:∀ j c' k,g j c' k→k < (w0).heap.size:=fun j c' k hk=>Nat.lt_of_lt_of_le (hB k (hgB j c' k hk)) hbut1.size
     have hcall1:=Tryz.mAtomS _ u1 l1 (g i 1) n1 m1 l1' k2 hd1 ho1 hr1 hl1 (by omega) (by omega) (fun k hk=>hglt1 i 1 k hk)
     try simp only [Nat.mul_one,Nat.add_zero] at hc1 hf1 hcall1 hglt1)
    go_wp2_with (
     go_at_call 51
     refine hcall1.mono ?_
     rintro ex1 w1 ⟨rfl,hbc1,hrr1,nn1,hdd1,hoo1⟩
     have hrow2:=hrow1.call (fun k hk=>hk.elim) hx1_1 (by omega) hc1 hbc1 hglt1 hrr1 hdd1 hoo1
     have hbut2:=hbut1.trans (hbc1.mono fun k hk=>hgB i 1 k hk))
    go_roundg (N - i - 1)
    case measure=>omega
    case rel=>exact ⟨i+1,_,k2,by omega,by omega,by go_num,by first | rfl | go_num,hmk2,hbut2,by rw [zaN hyr,zaN (za1 hyr)] at hrow2;simpa using hrow2⟩
   ·obtain rfl:i=N:=by omega
    go_wp2
    go_ret
    rw [← hN] at hmk
    have he:some (ys,k1)=some (xs',k'):=hmk.symm.trans hm
    cases he
    obtain ⟨q1,q2⟩:=hrow0.forest hcap hBb hgB
    rw [hl] at q1 q2
    exact ⟨rfl,hbut0,q1,q2⟩
end Go.Proofs
namespace Go.Proofs
open Go.Shelf
def Tryz.lays122_ren:Go.Shelf.Ren:=⟨fun | 122=>133 | 215=>175 | n=>n,fun | 3=>3 | 4=>4 | n=>n,fun | n=>n⟩
theorem Tryz.lays122:Go.Proofs.Lays.n122 Tryz.prog Tryz.lays122_ren:={
 mixed:=by kernel_rfl
 f122:=Tryz.func133.trans (congrArg some (by kernel_rfl))
 f215:=Tryz.func175.trans (congrArg some (by kernel_rfl))
 t3:=Tryz.underlying3
 a3:=Tryz.isAgg3
 z3:=Tryz.sizeOf3
 v3:=Tryz.zeroValue3
 t4:=Tryz.underlying4
 a4:=Tryz.isAgg4
 z4:=Tryz.sizeOf4
 v4:=Tryz.zeroValue4 }
def Tryz.lays189_ren:Go.Shelf.Ren:=⟨fun | 189=>176 | 125=>166 | 257=>207 | 128=>200 | 129=>201 | 294=>230 | 295=>231 | 296=>232 | 297=>233 | 298=>234 | 299=>235 | 216=>236 | 300=>237 | 301=>238 | 328=>246 | 329=>225 | 330=>226 | 331=>247 | 332=>248 | 215=>175 | 343=>252 | n=>n,fun | 28=>27 | 3=>3 | 46=>180 | 0=>0 | 51=>203 | 53=>205 | 4=>4 | 183=>197 | 182=>196 | 131=>149 | 5=>5 | 9=>9 | 218=>220 | 222=>224 | 228=>239 | 229=>240 | n=>n,fun | n=>n⟩
theorem Tryz.lays189:Go.Proofs.Lays.n189 Tryz.prog Tryz.lays189_ren:={
 mixed:=by kernel_rfl
 f125:=Tryz.func166.trans (congrArg some (by kernel_rfl))
 f128:=Tryz.func200.trans (congrArg some (by kernel_rfl))
 f129:=Tryz.func201.trans (congrArg some (by kernel_rfl))
 f189:=Tryz.func176.trans (congrArg some (by kernel_rfl))
 f215:=Tryz.func175.trans (congrArg some (by kernel_rfl))
 f216:=Tryz.func236.trans (congrArg some (by kernel_rfl))
 f257:=Tryz.func207.trans (congrArg some (by kernel_rfl))
 f294:=Tryz.func230.trans (congrArg some (by kernel_rfl))
 f295:=Tryz.func231.trans (congrArg some (by kernel_rfl))
 f296:=Tryz.func232.trans (congrArg some (by kernel_rfl))
 f297:=Tryz.func233.trans (congrArg some (by kernel_rfl))
 f298:=Tryz.func234.trans (congrArg some (by kernel_rfl))
 f299:=Tryz.func235.trans (congrArg some (by kernel_rfl))
 f300:=Tryz.func237.trans (congrArg some (by kernel_rfl))
 f301:=Tryz.func238.trans (congrArg some (by kernel_rfl))
 f328:=Tryz.func246.trans (congrArg some (by kernel_rfl))
 f329:=Tryz.func225.trans (congrArg some (by kernel_rfl))
 f330:=Tryz.func226.trans (congrArg some (by kernel_rfl))
 f331:=Tryz.func247.trans (congrArg some (by kernel_rfl))
 f332:=Tryz.func248.trans (congrArg some (by kernel_rfl))
 f343:=Tryz.func252.trans (congrArg some (by kernel_rfl))
 t0:=Tryz.underlying0
 a0:=Tryz.isAgg0
 z0:=Tryz.sizeOf0
 v0:=Tryz.zeroValue0
 t3:=Tryz.underlying3
 a3:=Tryz.isAgg3
 z3:=Tryz.sizeOf3
 v3:=Tryz.zeroValue3
 t4:=Tryz.underlying4
 a4:=Tryz.isAgg4
 z4:=Tryz.sizeOf4
 v4:=Tryz.zeroValue4
 t5:=Tryz.underlying5
 a5:=Tryz.isAgg5
 z5:=Tryz.sizeOf5
 v5:=Tryz.zeroValue5
 t9:=Tryz.underlying9
 a9:=Tryz.isAgg9
 z9:=Tryz.sizeOf9
 v9:=Tryz.zeroValue9
 t28:=Tryz.underlying27
 a28:=Tryz.isAgg27
 z28:=Tryz.sizeOf27
 v28:=Tryz.zeroValue27
 t46:=Tryz.underlying180
 a46:=Tryz.isAgg180
 z46:=Tryz.sizeOf180
 v46:=Tryz.zeroValue180
 t51:=Tryz.underlying203
 a51:=Tryz.isAgg203
 z51:=Tryz.sizeOf203
 v51:=Tryz.zeroValue203
 t53:=Tryz.underlying205
 a53:=Tryz.isAgg205
 z53:=Tryz.sizeOf205
 v53:=Tryz.zeroValue205
 t131:=Tryz.underlying149
 a131:=Tryz.isAgg149
 z131:=Tryz.sizeOf149
 v131:=Tryz.zeroValue149
 t182:=Tryz.underlying196
 a182:=Tryz.isAgg196
 z182:=Tryz.sizeOf196
 v182:=Tryz.zeroValue196
 t183:=Tryz.underlying197
 a183:=Tryz.isAgg197
 z183:=Tryz.sizeOf197
 v183:=Tryz.zeroValue197
 t218:=Tryz.underlying220
 a218:=Tryz.isAgg220
 z218:=Tryz.sizeOf220
 v218:=Tryz.zeroValue220
 t222:=Tryz.underlying224
 a222:=Tryz.isAgg224
 z222:=Tryz.sizeOf224
 v222:=Tryz.zeroValue224
 t228:=Tryz.underlying239
 a228:=Tryz.isAgg239
 z228:=Tryz.sizeOf239
 v228:=Tryz.zeroValue239
 t229:=Tryz.underlying240
 a229:=Tryz.isAgg240
 z229:=Tryz.sizeOf240
 v229:=Tryz.zeroValue240 }
def Tryz.lays212_ren:Go.Shelf.Ren:=⟨fun | 212=>239 | 263=>249 | 264=>250 | n=>n,fun | 46=>180 | 51=>203 | 146=>244 | 53=>205 | 148=>246 | n=>n,fun | n=>n⟩
theorem Tryz.lays212:Go.Proofs.Lays.n212 Tryz.prog Tryz.lays212_ren:={
 mixed:=by kernel_rfl
 f212:=Tryz.func239.trans (congrArg some (by kernel_rfl))
 f263:=Tryz.func249.trans (congrArg some (by kernel_rfl))
 f264:=Tryz.func250.trans (congrArg some (by kernel_rfl))
 t46:=Tryz.underlying180
 a46:=Tryz.isAgg180
 z46:=Tryz.sizeOf180
 v46:=Tryz.zeroValue180
 t51:=Tryz.underlying203
 a51:=Tryz.isAgg203
 z51:=Tryz.sizeOf203
 v51:=Tryz.zeroValue203
 t53:=Tryz.underlying205
 a53:=Tryz.isAgg205
 z53:=Tryz.sizeOf205
 v53:=Tryz.zeroValue205
 t146:=Tryz.underlying244
 a146:=Tryz.isAgg244
 z146:=Tryz.sizeOf244
 v146:=Tryz.zeroValue244
 t148:=Tryz.underlying246
 a148:=Tryz.isAgg246
 z148:=Tryz.sizeOf246
 v148:=Tryz.zeroValue246 }
def Tryz.lays111_ren:Go.Shelf.Ren:=⟨fun | 111=>114 | n=>n,fun | 28=>27 | 3=>3 | 4=>4 | 0=>0 | n=>n,fun | n=>n⟩
theorem Tryz.lays111:Go.Proofs.Lays.n111 Tryz.prog Tryz.lays111_ren:={
 mixed:=by kernel_rfl
 f111:=Tryz.func114.trans (congrArg some (by kernel_rfl))
 t0:=Tryz.underlying0
 a0:=Tryz.isAgg0
 z0:=Tryz.sizeOf0
 v0:=Tryz.zeroValue0
 t3:=Tryz.underlying3
 a3:=Tryz.isAgg3
 z3:=Tryz.sizeOf3
 v3:=Tryz.zeroValue3
 t4:=Tryz.underlying4
 a4:=Tryz.isAgg4
 z4:=Tryz.sizeOf4
 v4:=Tryz.zeroValue4
 t28:=Tryz.underlying27
 a28:=Tryz.isAgg27
 z28:=Tryz.sizeOf27
 v28:=Tryz.zeroValue27 }
def Tryz.laysNm215_ren:Go.Shelf.Ren:=⟨fun | 15=>87 | n=>n,fun | 22=>27 | 3=>3 | 4=>4 | n=>n,fun | n=>n⟩
theorem Tryz.laysNm215:Go.Proofs.Lays2.n15 Tryz.prog Tryz.laysNm215_ren:={
 mixed:=by kernel_rfl
 f15:=Tryz.func87.trans (congrArg some (by kernel_rfl))
 t3:=Tryz.underlying3
 a3:=Tryz.isAgg3
 z3:=Tryz.sizeOf3
 v3:=Tryz.zeroValue3
 t4:=Tryz.underlying4
 a4:=Tryz.isAgg4
 z4:=Tryz.sizeOf4
 v4:=Tryz.zeroValue4
 t22:=Tryz.underlying27
 a22:=Tryz.isAgg27
 z22:=Tryz.sizeOf27
 v22:=Tryz.zeroValue27
 i3:=by kernel_rfl }
def Tryz.laysNm220_ren:Go.Shelf.Ren:=⟨fun | 20=>177 | n=>n,fun | 22=>27 | 3=>3 | 4=>4 | 0=>0 | n=>n,fun | n=>n⟩
theorem Tryz.laysNm220:Go.Proofs.Lays2.n20 Tryz.prog Tryz.laysNm220_ren:={
 mixed:=by kernel_rfl
 f20:=Tryz.func177.trans (congrArg some (by kernel_rfl))
 t0:=Tryz.underlying0
 a0:=Tryz.isAgg0
 z0:=Tryz.sizeOf0
 v0:=Tryz.zeroValue0
 t3:=Tryz.underlying3
 a3:=Tryz.isAgg3
 z3:=Tryz.sizeOf3
 v3:=Tryz.zeroValue3
 t4:=Tryz.underlying4
 a4:=Tryz.isAgg4
 z4:=Tryz.sizeOf4
 v4:=Tryz.zeroValue4
 t22:=Tryz.underlying27
 a22:=Tryz.isAgg27
 z22:=Tryz.sizeOf27
 v22:=Tryz.zeroValue27
 i3:=by kernel_rfl }
def Tryz.laysSlF6_f234_ren:Go.Shelf.Ren:=⟨fun | 6=>111 | 15=>166 | 14=>165 | 28=>200 | 29=>201 | 20=>192 | 21=>193 | 22=>194 | 23=>195 | 24=>196 | 25=>197 | 26=>198 | 27=>199 | 46=>224 | 47=>225 | 48=>226 | 49=>227 | 50=>228 | 57=>245 | n=>n,fun | 22=>56 | 24=>27 | 25=>143 | 3=>3 | 39=>180 | 0=>0 | 53=>203 | 55=>205 | 4=>4 | 46=>197 | 45=>196 | 50=>149 | 5=>5 | 9=>9 | 66=>220 | 70=>224 | 76=>239 | 77=>240 | n=>n,fun | n=>n⟩
theorem Tryz.laysSlF6_f234:Go.Proofs.SlLaysF.n6 Tryz.prog Tryz.laysSlF6_f234_ren:={
 mixed:=by kernel_rfl
 f6:=⟨Tryz.f111.name,by decide,Tryz.func111.trans (congrArg some (by kernel_rfl))⟩
 f14:=⟨Tryz.f165.name,by decide,Tryz.func165.trans (congrArg some (by kernel_rfl))⟩
 f15:=Tryz.func166.trans (congrArg some (by kernel_rfl))
 f20:=⟨Tryz.f192.name,by decide,Tryz.func192.trans (congrArg some (by kernel_rfl))⟩
 f21:=⟨Tryz.f193.name,by decide,Tryz.func193.trans (congrArg some (by kernel_rfl))⟩
 f22:=⟨Tryz.f194.name,by decide,Tryz.func194.trans (congrArg some (by kernel_rfl))⟩
 f23:=⟨Tryz.f195.name,by decide,Tryz.func195.trans (congrArg some (by kernel_rfl))⟩
 f24:=⟨Tryz.f196.name,by decide,Tryz.func196.trans (congrArg some (by kernel_rfl))⟩
 f25:=⟨Tryz.f197.name,by decide,Tryz.func197.trans (congrArg some (by kernel_rfl))⟩
 f26:=⟨Tryz.f198.name,by decide,Tryz.func198.trans (congrArg some (by kernel_rfl))⟩
 f27:=⟨Tryz.f199.name,by decide,Tryz.func199.trans (congrArg some (by kernel_rfl))⟩
 f28:=Tryz.func200.trans (congrArg some (by kernel_rfl))
 f29:=Tryz.func201.trans (congrArg some (by kernel_rfl))
 f46:=⟨Tryz.f224.name,by decide,Tryz.func224.trans (congrArg some (by kernel_rfl))⟩
 f47:=Tryz.func225.trans (congrArg some (by kernel_rfl))
 f48:=Tryz.func226.trans (congrArg some (by kernel_rfl))
 f49:=⟨Tryz.f227.name,by decide,Tryz.func227.trans (congrArg some (by kernel_rfl))⟩
 f50:=⟨Tryz.f228.name,by decide,Tryz.func228.trans (congrArg some (by kernel_rfl))⟩
 f57:=⟨Tryz.f245.name,by decide,Tryz.func245.trans (congrArg some (by kernel_rfl))⟩
 t0:=Tryz.underlying0
 a0:=Tryz.isAgg0
 z0:=Tryz.sizeOf0
 v0:=Tryz.zeroValue0
 t3:=Tryz.underlying3
 a3:=Tryz.isAgg3
 z3:=Tryz.sizeOf3
 v3:=Tryz.zeroValue3
 t4:=Tryz.underlying4
 a4:=Tryz.isAgg4
 z4:=Tryz.sizeOf4
 v4:=Tryz.zeroValue4
 t5:=Tryz.underlying5
 a5:=Tryz.isAgg5
 z5:=Tryz.sizeOf5
 v5:=Tryz.zeroValue5
 t9:=Tryz.underlying9
 a9:=Tryz.isAgg9
 z9:=Tryz.sizeOf9
 v9:=Tryz.zeroValue9
 t22:=Tryz.underlying56
 a22:=Tryz.isAgg56
 z22:=Tryz.sizeOf56
 v22:=Tryz.zeroValue56
 a24:=Tryz.isAgg27
 z24:=Tryz.sizeOf27
 t25:=Tryz.underlying143
 a25:=Tryz.isAgg143
 z25:=Tryz.sizeOf143
 v25:=Tryz.zeroValue143
 t39:=Tryz.underlying180
 a39:=Tryz.isAgg180
 z39:=Tryz.sizeOf180
 v39:=Tryz.zeroValue180
 t45:=Tryz.underlying196
 a45:=Tryz.isAgg196
 z45:=Tryz.sizeOf196
 v45:=Tryz.zeroValue196
 t46:=Tryz.underlying197
 a46:=Tryz.isAgg197
 z46:=Tryz.sizeOf197
 v46:=Tryz.zeroValue197
 t50:=Tryz.underlying149
 a50:=Tryz.isAgg149
 z50:=Tryz.sizeOf149
 v50:=Tryz.zeroValue149
 t53:=Tryz.underlying203
 a53:=Tryz.isAgg203
 z53:=Tryz.sizeOf203
 v53:=Tryz.zeroValue203
 t55:=Tryz.underlying205
 a55:=Tryz.isAgg205
 z55:=Tryz.sizeOf205
 v55:=Tryz.zeroValue205
 t66:=Tryz.underlying220
 a66:=Tryz.isAgg220
 z66:=Tryz.sizeOf220
 v66:=Tryz.zeroValue220
 t70:=Tryz.underlying224
 a70:=Tryz.isAgg224
 z70:=Tryz.sizeOf224
 v70:=Tryz.zeroValue224
 t76:=Tryz.underlying239
 a76:=Tryz.isAgg239
 z76:=Tryz.sizeOf239
 v76:=Tryz.zeroValue239
 t77:=Tryz.underlying240
 a77:=Tryz.isAgg240
 z77:=Tryz.sizeOf240
 v77:=Tryz.zeroValue240 }
def Tryz.laysSlE041_f166_ren:Go.Shelf.Ren:=⟨fun | 41=>82 | n=>n,fun | 22=>30 | 23=>112 | 4=>4 | n=>n,fun | n=>n⟩
theorem Tryz.laysSlE041_f166:Go.Proofs.SlLaysE0.n41 Tryz.prog Tryz.laysSlE041_f166_ren:={
 mixed:=by kernel_rfl
 f41:=⟨Tryz.f82.name,by decide,Tryz.func82.trans (congrArg some (by kernel_rfl))⟩
 t4:=Tryz.underlying4
 a4:=Tryz.isAgg4
 z4:=Tryz.sizeOf4
 v4:=Tryz.zeroValue4
 t22:=Tryz.underlying30
 a22:=Tryz.isAgg30
 z22:=Tryz.sizeOf30
 v22:=Tryz.zeroValue30 }
def Tryz.laysSlF06_f168_ren:Go.Shelf.Ren:=⟨fun | 6=>150 | 15=>166 | 14=>189 | 28=>200 | 29=>201 | 20=>216 | 21=>217 | 22=>218 | 23=>219 | 24=>220 | 25=>221 | 26=>222 | 27=>223 | 46=>242 | 47=>225 | 48=>226 | 49=>243 | 50=>244 | 57=>251 | n=>n,fun | 22=>31 | 24=>114 | 25=>119 | 3=>3 | 39=>180 | 0=>0 | 53=>203 | 55=>205 | 4=>4 | 46=>197 | 45=>196 | 50=>149 | 5=>5 | 9=>9 | 66=>220 | 70=>224 | 76=>239 | 77=>240 | n=>n,fun | n=>n⟩
theorem Tryz.laysSlF06_f168:Go.Proofs.SlLaysF0.n6 Tryz.prog Tryz.laysSlF06_f168_ren:={
 mixed:=by kernel_rfl
 f6:=⟨Tryz.f150.name,by decide,Tryz.func150.trans (congrArg some (by kernel_rfl))⟩
 f14:=⟨Tryz.f189.name,by decide,Tryz.func189.trans (congrArg some (by kernel_rfl))⟩
 f15:=Tryz.func166.trans (congrArg some (by kernel_rfl))
 f20:=⟨Tryz.f216.name,by decide,Tryz.func216.trans (congrArg some (by kernel_rfl))⟩
 f21:=⟨Tryz.f217.name,by decide,Tryz.func217.trans (congrArg some (by kernel_rfl))⟩
 f22:=⟨Tryz.f218.name,by decide,Tryz.func218.trans (congrArg some (by kernel_rfl))⟩
 f23:=⟨Tryz.f219.name,by decide,Tryz.func219.trans (congrArg some (by kernel_rfl))⟩
 f24:=⟨Tryz.f220.name,by decide,Tryz.func220.trans (congrArg some (by kernel_rfl))⟩
 f25:=⟨Tryz.f221.name,by decide,Tryz.func221.trans (congrArg some (by kernel_rfl))⟩
 f26:=⟨Tryz.f222.name,by decide,Tryz.func222.trans (congrArg some (by kernel_rfl))⟩
 f27:=⟨Tryz.f223.name,by decide,Tryz.func223.trans (congrArg some (by kernel_rfl))⟩
 f28:=Tryz.func200.trans (congrArg some (by kernel_rfl))
 f29:=Tryz.func201.trans (congrArg some (by kernel_rfl))
 f46:=⟨Tryz.f242.name,by decide,Tryz.func242.trans (congrArg some (by kernel_rfl))⟩
 f47:=Tryz.func225.trans (congrArg some (by kernel_rfl))
 f48:=Tryz.func226.trans (congrArg some (by kernel_rfl))
 f49:=⟨Tryz.f243.name,by decide,Tryz.func243.trans (congrArg some (by kernel_rfl))⟩
 f50:=⟨Tryz.f244.name,by decide,Tryz.func244.trans (congrArg some (by kernel_rfl))⟩
 f57:=⟨Tryz.f251.name,by decide,Tryz.func251.trans (congrArg some (by kernel_rfl))⟩
 t0:=Tryz.underlying0
 a0:=Tryz.isAgg0
 z0:=Tryz.sizeOf0
 v0:=Tryz.zeroValue0
 t3:=Tryz.underlying3
 a3:=Tryz.isAgg3
 z3:=Tryz.sizeOf3
 v3:=Tryz.zeroValue3
 t4:=Tryz.underlying4
 a4:=Tryz.isAgg4
 z4:=Tryz.sizeOf4
 v4:=Tryz.zeroValue4
 t5:=Tryz.underlying5
 a5:=Tryz.isAgg5
 z5:=Tryz.sizeOf5
 v5:=Tryz.zeroValue5
 t9:=Tryz.underlying9
 a9:=Tryz.isAgg9
 z9:=Tryz.sizeOf9
 v9:=Tryz.zeroValue9
 t22:=Tryz.underlying31
 a22:=Tryz.isAgg31
 z22:=Tryz.sizeOf31
 v22:=Tryz.zeroValue31
 t25:=Tryz.underlying119
 a25:=Tryz.isAgg119
 z25:=Tryz.sizeOf119
 v25:=Tryz.zeroValue119
 t39:=Tryz.underlying180
 a39:=Tryz.isAgg180
 z39:=Tryz.sizeOf180
 v39:=Tryz.zeroValue180
 t45:=Tryz.underlying196
 a45:=Tryz.isAgg196
 z45:=Tryz.sizeOf196
 v45:=Tryz.zeroValue196
 t46:=Tryz.underlying197
 a46:=Tryz.isAgg197
 z46:=Tryz.sizeOf197
 v46:=Tryz.zeroValue197
 t50:=Tryz.underlying149
 a50:=Tryz.isAgg149
 z50:=Tryz.sizeOf149
 v50:=Tryz.zeroValue149
 t53:=Tryz.underlying203
 a53:=Tryz.isAgg203
 z53:=Tryz.sizeOf203
 v53:=Tryz.zeroValue203
 t55:=Tryz.underlying205
 a55:=Tryz.isAgg205
 z55:=Tryz.sizeOf205
 v55:=Tryz.zeroValue205
 t66:=Tryz.underlying220
 a66:=Tryz.isAgg220
 z66:=Tryz.sizeOf220
 v66:=Tryz.zeroValue220
 t70:=Tryz.underlying224
 a70:=Tryz.isAgg224
 z70:=Tryz.sizeOf224
 v70:=Tryz.zeroValue224
 t76:=Tryz.underlying239
 a76:=Tryz.isAgg239
 z76:=Tryz.sizeOf239
 v76:=Tryz.zeroValue239
 t77:=Tryz.underlying240
 a77:=Tryz.isAgg240
 z77:=Tryz.sizeOf240
 v77:=Tryz.zeroValue240 }
end Go.Proofs
namespace Go.Proofs
open Go.Shelf Go.RowKit Go.Lib Go.Sort
theorem zjR (w:World) (q:Nat) (c c':Array Value) (t:TypeId):((w.alloc (.cells c t (0,0))).drewN q).setRow w.heap.size c'=(w.alloc (.cells c' t (0,0))).drewN q:=by
 unfold World.setRow World.alloc World.drewN
 simp only [World.mk.injEq,and_true,true_and]
 apply Array.ext_getElem?
 intro i
 rw [Array.getElem?_modify,Array.getElem?_push,Array.getElem?_push]
 by_cases h:i=w.heap.size
 ·subst h;simp
 ·rw [if_neg (fun e=>h e.symm),if_neg h,if_neg h]
def rep5 (n:Nat):Array Value:=((List.replicate n (Value.int .i64 10))++(List.replicate (5 - n) (Value.int .i64 0))).toArray
theorem zmy {n:Nat} (h:n≤5):(rep5 n).size=5:=by simp [rep5];omega
theorem zmx {w:World} {n q j:Nat} (h:j < n) (hn:n≤5):((w.alloc (.cells (rep5 n) 3 (0,0))).drewN q).cell? ⟨w.heap.size,j,none⟩=some (.int .i64 10):=by
 have hg:(w.alloc (.cells (rep5 n) 3 (0,0))).heap[w.heap.size]? = some (.cells (rep5 n) 3 (0,0)):=by
  show (w.heap.push _)[w.heap.size]? = _
  simp
 simp only [World.cell?, World.heap_drewN,hg,Option.isSome_none,Bool.false_eq_true,if_false]
 unfold rep5
 rw [List.getElem?_toArray,List.getElem?_append_left (by simpa using h),List.getElem?_replicate,if_pos h]
theorem zjc (w:World) (n m q:Nat) (a:Addr) (sl sc dc:Nat) (ty:TypeId) (hn:n+m≤5) (hm:Nat.min sl (5 - n)=m) (ha:∀ j,j < m→((w.alloc (.cells (rep5 n) 3 (0,0))).drewN q).cell? (a.add j)=some (.int .i64 10)) :
  (Builtin.copy_ #[27,27] ty #[.slice (some ⟨w.heap.size,n,none⟩) (5 - n) dc,.slice (some a) sl sc]).run Tryz.prog ((w.alloc (.cells (rep5 n) 3 (0,0))).drewN q)=.ok (goInt m) ((w.alloc (.cells (rep5 (n+m)) 3 (0,0))).drewN q):=by
 have:=run_copy_row (P:=Tryz.prog) ((w.alloc (.cells (rep5 n) 3 (0,0))).drewN q) 27 27 ty 3 w.heap.size n (5 - n) dc a sl sc (rep5 n) 3 (List.replicate m (.int .i64 10)) (by kernel_rfl) (by kernel_rfl) (by show (w.heap.push _)[w.heap.size]? = _;simp) (by rw [List.length_replicate,hm])
  (fun j v hj=>by
   obtain ⟨h1,h2⟩:=List.getElem?_eq_some_iff.1 hj
   rw [List.length_replicate] at h1
   rw [ha j h1,← h2];simp) (by rw [List.length_replicate,zmy (by omega)];omega) (fun v hv=>by rw [List.eq_of_mem_replicate hv];rfl)
 have e:((rep5 n).toList.take n++List.replicate m (Value.int .i64 10)++(rep5 n).toList.drop (n+(List.replicate m (Value.int .i64 10)).length)).toArray=rep5 (n+m):=by
  unfold rep5
  apply Array.toList_inj.1
  simp only [List.length_replicate]
  rw [List.take_left' (by simp),List.drop_append,List.drop_eq_nil_of_le (by simp),List.nil_append,List.length_replicate,List.drop_replicate,List.replicate_append_replicate,show 5 - n - (n+m - n)=5 - (n+m) by omega]
 rw [this,List.length_replicate,zjR]
 rw [List.length_replicate] at e
 rw [e]
set_option maxHeartbeats 4000000 in
set_option maxRecDepth 1000000 in
theorem Tryz.repeat_walk (b o c:Nat) (w:World) (hx:w.cell? ⟨b,o,none⟩=some (.int .i64 10)) (hb:b < w.heap.size) :
  Calls Tryz.prog 210 #[.slice (some ⟨b,o,none⟩) 1 c,.int .i64 5] w fun e w'=>e=.returned (.slice (some ⟨w.heap.size,0,none⟩) 5 5)∧∃ q,w'=(w.alloc (.cells #[.int .i64 10,.int .i64 10,.int .i64 10,.int .i64 10,.int .i64 10] 3 (0,0))).drewN q:=by
 have mixed:Tryz.prog.follows .mixedOrders=true:=by kernel_rfl
 have hmul:Calls Tryz.prog 239 #[.int .u64 1,.int .u64 5] w fun e w'=>e=.returned (.tuple #[.int .u64 0,.int .u64 5])∧w'=w:=by
  have:=Any.bits_Mul Tryz.lays212 1 5 (by omega) (by omega) w
  change Calls Tryz.prog 239 _ _ _ at this
  simpa using this
 have hmk:∀ W:World,(Instr.makeSlice 27 (.int .i64 5) (.int .i64 5)).run Tryz.prog W=.ok (.slice (some ⟨W.heap.size,0,none⟩) 5 5) (W.alloc (.cells #[.int .i64 0,.int .i64 0,.int .i64 0,.int .i64 0,.int .i64 0] 3 (0,0))):=fun W=>by kernel_rfl
 have hcp0:∀ ty,(Builtin.copy_ #[27,27] ty #[.slice (some ⟨w.heap.size,0,none⟩) 5 5,.slice (some ⟨b,o,none⟩) 1 c]).run Tryz.prog (w.alloc (.cells #[.int .i64 0,.int .i64 0,.int .i64 0,.int .i64 0,.int .i64 0] 3 (0,0)))=.ok (.int .i64 1) ((w.alloc (.cells (rep5 1) 3 (0,0))).drewN 0):=fun ty =>
  zjc w 0 1 0 ⟨b,o,none⟩ 1 c 5 ty (by omega) rfl (fun j hj=>by
   obtain rfl:j=0:=by omega
   have:(w.alloc (.cells (rep5 0) 3 (0,0))).cell? ⟨b,o,none⟩=some (.int .i64 10):=by
    rw [← hx]
    unfold World.cell?
    rw [show (w.alloc (.cells (rep5 0) 3 (0,0))).heap[b]? = w.heap[b]? from Below.heap_alloc w _ b hb]
   simpa [Addr.add] using this)
 go_enter Tryz.func210,Tryz.ntmps210
 go_wp2_with (go_at_call 239;refine hmul.mono ?_;rintro e w' ⟨rfl,rfl⟩)
 go_loopg [8] 5 (fun g s8 wr=>∃ n q:Nat,(n=1∨n=2∨n=4∨n=5)∧5 - n≤g∧s8=.int .i64 n∧wr=(w'.alloc (.cells (rep5 n) 3 (0,0))).drewN q)
 case atStart=>exact ⟨1,0,.inl rfl,by omega,rfl,rfl⟩
 case round =>
  obtain ⟨n,q,hn,hg,rfl,rfl⟩:=hrel
  have hs:∀ (n m sl:Nat),n+m≤5→Nat.min sl (5 - n)=m→m≤n→∀ q dc sc ty,(Builtin.copy_ #[27,27] ty #[.slice (some ⟨w'.heap.size,n,none⟩) (5 - n) dc,.slice (some ⟨w'.heap.size,0,none⟩) sl sc]).run Tryz.prog ((w'.alloc (.cells (rep5 n) 3 (0,0))).drewN q)=.ok (goInt m) ((w'.alloc (.cells (rep5 (n+m)) 3 (0,0))).drewN q) :=
   fun n m sl h1 h2 h3 q dc sc ty=>zjc w' n m q ⟨w'.heap.size,0,none⟩ sl sc dc ty h1 h2 (fun j hj=>by rw [Ovi.add_at,Nat.zero_add];exact zmx (by omega) (by omega))
  clear hcp0 hmk
  rcases hn with rfl | rfl | rfl | rfl
  ·have h1:∀ q,(Builtin.copy_ #[27,27] 3 #[.slice (some ⟨w'.heap.size,1,none⟩) 4 4,.slice (some ⟨w'.heap.size,0,none⟩) 1 5]).run Tryz.prog ((w'.alloc (.cells (rep5 1) 3 (0,0))).drewN q)=.ok (.int .i64 1) ((w'.alloc (.cells (rep5 2) 3 (0,0))).drewN q):=fun q=>hs 1 1 1 (by omega) rfl (by omega) q 4 5 3
   clear hs
   go_wp2_with fail
   go_region_o
   go_wp2
   go_roundg 3
   case measure=>omega
   case rel=>exact ⟨2,q+1,.inr (.inl rfl),by omega,by first | rfl | go_num,rfl⟩
  ·have h1:∀ q,(Builtin.copy_ #[27,27] 3 #[.slice (some ⟨w'.heap.size,2,none⟩) 3 3,.slice (some ⟨w'.heap.size,0,none⟩) 2 5]).run Tryz.prog ((w'.alloc (.cells (rep5 2) 3 (0,0))).drewN q)=.ok (.int .i64 2) ((w'.alloc (.cells (rep5 4) 3 (0,0))).drewN q):=fun q=>hs 2 2 2 (by omega) rfl (by omega) q 3 5 3
   clear hs
   go_wp2_with fail
   go_region_o
   go_wp2
   go_roundg 1
   case measure=>omega
   case rel=>exact ⟨4,q+1,.inr (.inr (.inl rfl)),by omega,by first | rfl | go_num,rfl⟩
  ·have h1:∀ q,(Builtin.copy_ #[27,27] 3 #[.slice (some ⟨w'.heap.size,4,none⟩) 1 1,.slice (some ⟨w'.heap.size,0,none⟩) 4 5]).run Tryz.prog ((w'.alloc (.cells (rep5 4) 3 (0,0))).drewN q)=.ok (.int .i64 1) ((w'.alloc (.cells (rep5 5) 3 (0,0))).drewN q):=fun q=>hs 4 1 4 (by omega) rfl (by omega) q 1 5 3
   clear hs
   go_wp2_with fail
   go_region_o
   go_wp2
   go_roundg 0
   case measure=>omega
   case rel=>exact ⟨5,q+1,.inr (.inr (.inr rfl)),by omega,by first | rfl | go_num,rfl⟩
  ·go_wp2
   go_ret
   exact ⟨rfl,q,rfl⟩
end Go.Proofs
namespace Go.Proofs
open Go.Shelf Go.RowKit Go.Lib Go.Sort Ovi
set_option maxHeartbeats 2000000 in
set_option maxRecDepth 1000000 in
theorem Tryz.cmp_both (b o c b' o' c':Nat) (xs ys:List Int) (w:World) (hl:xs.length < 4611686018427387904) (hl':ys.length < 4611686018427387904)
  (hx:∀ (i:Nat) z,xs[i]? = some z→w.cell? ⟨b,o+i,none⟩=some (.int .i64 z)) (hy:∀ (i:Nat) z,ys[i]? = some z→w.cell? ⟨b',o'+i,none⟩=some (.int .i64 z)) :
  Calls Tryz.prog 112 #[.slice (some ⟨b,o,none⟩) xs.length c,.slice (some ⟨b',o',none⟩) ys.length c'] w fun e w'=>e=.returned (.int .i64 (cmpL xs ys))∧w'=w:=by
 go_enter Tryz.func112,Tryz.ntmps112
 go_wp2
 go_loop [11] (fun i=>∃ k:Nat,k≤xs.length∧k≤ys.length∧i=.int .i64 k∧Hid (cmpL xs ys=cmpL (xs.drop k) (ys.drop k))) (fun i=>xs.length - (intOf i).toNat)
 case atStart=>exact ⟨0,Nat.zero_le _,Nat.zero_le _,rfl,rfl⟩
 case round =>
  obtain ⟨k,hk,hk',rfl,H⟩:=hrel
  by_cases hlt:k < xs.length
  ·by_cases hlt':k < ys.length
   ·have g1:=hx k _ (List.getElem?_eq_getElem hlt)
    have g2:=hy k _ (List.getElem?_eq_getElem hlt')
    have D:Hid (cmpL (xs.drop k) (ys.drop k)=if xs[k] < ys[k] then -1 else if xs[k] > ys[k] then 1 else cmpL (xs.drop (k+1)) (ys.drop (k+1))):=by
     show _=_
     rw [List.drop_eq_getElem_cons hlt,List.drop_eq_getElem_cons hlt']
     rfl
    clear hx hy
    have hcon:=Any.cmp_Compare_int Tryz.lays122 xs[k] ys[k] w
    change Calls Tryz.prog 133 _ _ _ at hcon
    have E:Hid (Lib.compareInt xs[k] ys[k]=if xs[k] < ys[k] then -1 else if xs[k] > ys[k] then 1 else 0):=by
     show _=_
     unfold Lib.compareInt
     rfl
    generalize hr:Lib.compareInt xs[k] ys[k]=r at hcon E
    clear hr
    generalize xs[k]=x at *
    generalize ys[k]=y at *
    by_cases hr0:r=0
    ·subst hr0
     go_wp2_with (go_at_call 133;refine hcon.mono ?_;rintro e w' ⟨rfl,rfl⟩)
     go_round
     case rel =>
      refine ⟨k+1,by omega,by omega,by go_num,?_⟩
      show _=_
      have h1:=E.out
      have h2:=D.out
      rw [H.out,h2]
      by_cases q1:x < y
      ·rw [if_pos q1] at h1;omega
      ·rw [if_neg q1] at h1 ⊢
       by_cases q2:x > y
       ·rw [if_pos q2] at h1;omega
       ·rw [if_neg q2]
     case measure=>simp [intOf];omega
    ·go_wp2_with (go_at_call 133;refine hcon.mono ?_;rintro e w' ⟨rfl,rfl⟩)
     go_ret
     refine ⟨?_,rfl⟩
     show Ending.returned (Value.int .i64 r)=Ending.returned (Value.int .i64 (cmpL xs ys))
     have h1:=E.out
     have h2:=D.out
     rw [H.out,h2]
     by_cases q1:x < y
     ·rw [if_pos q1] at h1 ⊢;rw [h1]
     ·rw [if_neg q1] at h1 ⊢
      by_cases q2:x > y
      ·rw [if_pos q2] at h1 ⊢;rw [h1]
      ·rw [if_neg q2] at h1;exact absurd h1 hr0
   ·obtain rfl:k=ys.length:=by omega
    have g1:=hx ys.length _ (List.getElem?_eq_getElem hlt)
    have D:Hid (cmpL xs ys=1):=by
     show _=_
     rw [H.out,List.drop_length,List.drop_eq_getElem_cons hlt]
     rfl
    clear hx hy H
    generalize xs[ys.length]=x at g1
    go_wp2
    go_ret
    refine ⟨?_,rfl⟩
    show Ending.returned (Value.int .i64 1)=Ending.returned (Value.int .i64 (cmpL xs ys))
    rw [D.out]
  ·clear hx hy
   obtain rfl:k=xs.length:=by omega
   by_cases hlen:xs.length < ys.length
   ·go_wp2
    go_ret
    refine ⟨?_,rfl⟩
    rw [H.out,List.drop_length,List.drop_eq_getElem_cons hlen]
    rfl
   ·go_wp2
    go_ret
    refine ⟨?_,rfl⟩
    rw [H.out,List.drop_length,List.drop_of_length_le (by omega)]
    rfl
set_option maxHeartbeats 2000000 in
set_option maxRecDepth 1000000 in
theorem Tryz.cmp_nil (A A':Option Addr) (c n c':Nat) (w:World) :
  Calls Tryz.prog 112 #[.slice A 0 c,.slice A' n c'] w fun e w'=>e=.returned (.int .i64 (if 0 < n then -1 else 0))∧w'=w:=by
 by_cases hn:0 < n
 ·rw [if_pos hn]
  go_enter Tryz.func112,Tryz.ntmps112
  go_wp2
  go_loop [11] (fun i=>i=.int .i64 0) (fun _=>0)
  case atStart=>rfl
  case round =>
   subst hrel
   go_wp2
   go_ret
   exact ⟨rfl,rfl⟩
 ·rw [if_neg hn]
  obtain rfl:n=0:=by omega
  go_enter Tryz.func112,Tryz.ntmps112
  go_wp2
  go_loop [11] (fun i=>i=.int .i64 0) (fun _=>0)
  case atStart=>rfl
  case round =>
   subst hrel
   go_wp2
   go_ret
   exact ⟨rfl,rfl⟩
set_option maxHeartbeats 2000000 in
set_option maxRecDepth 1000000 in
theorem Tryz.cmp_one (b o c n c':Nat) (A':Option Addr) (x:Int) (w:World) (hn:0 < n) (hx:w.cell? ⟨b,o,none⟩=some (.int .i64 x)) :
  Calls Tryz.prog 112 #[.slice (some ⟨b,o,none⟩) n c,.slice A' 0 c'] w fun e w'=>e=.returned (.int .i64 1)∧w'=w:=by
 go_enter Tryz.func112,Tryz.ntmps112
 go_wp2
 go_loop [11] (fun i=>i=.int .i64 0) (fun _=>0)
 case atStart=>rfl
 case round =>
  subst hrel
  go_wp2
  go_ret
  exact ⟨rfl,rfl⟩
end Go.Proofs
namespace Go.Proofs
open Go.Shelf Go.RowKit Go.Lib Go.Sort Ovi
theorem zdc {w:World} {S:Nat→Prop} {zs:List Int} {B:Option Addr} (hne:zs≠[]) (h:∀ (i:Nat) z,zs[i]? = some z→∃ ad,B=some ad∧S ad.block∧w.cell? (ad.add i)=some (.int .i64 z)):∃ b o,B=some ⟨b,o,none⟩∧∀ (i:Nat) z,zs[i]? = some z→w.cell? ⟨b,o+i,none⟩=some (.int .i64 z):=by
 cases zs with
 | nil=>exact absurd rfl hne
 | cons z0 zs =>
  obtain ⟨ad,e,_,h0⟩:=h 0 z0 rfl
  obtain ⟨b,o,spot⟩:=ad
  have hspot:spot=none:=by simpa [Addr.add] using World.cell?_spot h0
  subst hspot
  refine ⟨b,o,e,fun i z hz=>?_⟩
  obtain ⟨ad',e',_,hi⟩:=h i z hz
  rw [e] at e'
  cases e'
  rwa [Ovi.add_at] at hi
theorem zhw {w:World} {b o:Nat} {zs:List Int} (h:∀ (i:Nat) z,zs[i]? = some z→w.cell? ⟨b,o+i,none⟩=some (.int .i64 z)):∀ j,j < zs.length→w.cell? ⟨b,o+j,none⟩=some (.int .i64 (zs.getD j 0)):=by
 intro j hj
 have hg:=List.getElem?_eq_getElem hj
 rw [h j _ hg,List.getD_eq_getElem?_getD,hg]
 rfl
theorem Tryz.eqC:EqC Tryz.prog 114:=by
 intro w S u v xs ys ⟨A,c,hu,hc,hx⟩ ⟨A',c',hv,hc',hy⟩ hxl hyl
 subst hu hv
 have fin:∀ {z z':Bool},z=z'→∀ {vs:Array Value},(Calls Tryz.prog 114 vs w fun e w'=>e=.returned (.bool z)∧w'=w)→Calls Tryz.prog 114 vs w fun e w'=>e=.returned (.bool z')∧∃ q,w'=w.drewN q:=by
  intro z z' hz vs h
  subst hz
  exact h.mono fun e w' ⟨h1,h2⟩=>⟨h1,0,by rw [h2];rfl⟩
 by_cases hlen:xs.length=ys.length
 ·by_cases hx0:xs=[]
  ·subst hx0
   have hy0:ys=[]:=List.eq_nil_of_length_eq_zero hlen.symm
   subst hy0
   exact fin rfl (Any.slices_Equal_int_empty Tryz.lays111 A A' c 0 c' w (by omega))
  ·have hy0:ys≠[]:=fun e=>hx0 (List.eq_nil_of_length_eq_zero (by rw [hlen,e];rfl))
   obtain ⟨b,o,rfl,hx1⟩:=zdc hx0 hx
   obtain ⟨b',o',rfl,hy1⟩:=zdc hy0 hy
   refine (Any.slices_Equal_int Tryz.lays111 b o xs.length c b' o' ys.length c' xs ys w (Nat.le_refl _) (Nat.le_refl _) (by omega) (by omega) (zhw hx1) (zhw hy1)).mono fun e w' ⟨h1,h2⟩=>⟨?_,h2⟩
   rw [h1,List.take_length,List.take_length]
   exact congrArg _ (congrArg _ (Bool.eq_iff_iff.2 (by simp)))
 ·exact fin (decide_eq_false (fun e=>hlen (by rw [e]))).symm (Any.slices_Equal_int_lens Tryz.lays111 A A' xs.length c ys.length c' w hlen)
end Go.Proofs
namespace Go.Proofs
open Go.Shelf Go.RowKit Go.Lib Go.Sort Ovi
variable {α:Type} [Inhabited α]
def lsts (lst:α→List Int) (d:Array α):Array (List Int):=d.map lst
omit [Inhabited α] in
theorem zdV (lst:α→List Int) (d:Array α):(lsts lst d).size=d.size:=by simp [lsts]
theorem zdx (lst:α→List Int) {d:Array α} {k:Nat} (h:k < d.size):(lsts lst d)[k]! = lst d[k]! := by
 rw [getElem!_pos _ k (by rw [zdV];exact h),getElem!_pos d k h]
 simp [lsts]
omit [Inhabited α] in
theorem zm2 (lst:α→List Int) (d:Array α) (k:Nat) (x:α):lsts lst (d.setIfInBounds k x)=(lsts lst d).setIfInBounds k (lst x):=by
 unfold lsts
 apply Array.ext_getElem?
 intro i
 simp only [Array.getElem?_map,Array.getElem?_setIfInBounds,Array.size_map]
 by_cases h:k=i
 ·subst h
  simp only [if_true]
  split<;>rfl
 ·simp [h]
def zlZ (lst:α→List Int) (enc:α→Value) (w:World) (blk off cap:Nat) (d:Array α) (e:Ending) (w':World):Prop :=
 ∃ (dk:Array α) (q kk:Nat),e=.returned (.slice (some ⟨blk,off,none⟩) kk cap)∧dk.size=d.size∧w'=(putRow enc w blk off dk).drewN q∧kk≤d.size∧(dk.toList.take kk).map lst=Lib.compact (d.toList.map lst)
theorem zkY (lst:α→List Int) (enc:α→Value) {w:World} {blk off cap:Nat} {d:Array α} (hH:Holds enc w blk off d) (q:Nat) (hall:∀ j,j < d.size→keeps (lsts lst d) j=true):zlZ lst enc w blk off cap d (.returned (.slice (some ⟨blk,off,none⟩) d.size cap)) (w.drewN q):=by
 refine ⟨d,q,d.size,rfl,rfl,?_,Nat.le_refl _,?_⟩
 ·rw [putRow_self enc w blk off d hH]
 ·rw [show d.size=d.toList.length by simp,List.take_length]
  have:=compact_all (d.toList.map lst) (fun j hj=>by
   have h2:(d.toList.map lst).toArray=lsts lst d:=by apply Array.ext_getElem?; intro i;simp [lsts]
   rw [h2]
   exact hall j (by simpa using hj))
  exact this.symm
theorem znS (lst:α→List Int) {d dk:Array α} {kk:Nat} (h:CompInv (lsts lst d) (lsts lst d).size kk (lsts lst dk)) (hs:dk.size=d.size):(dk.toList.take kk).map lst=Lib.compact (d.toList.map lst):=by
 have h2:(d.toList.map lst).toArray=lsts lst d:=by apply Array.ext_getElem?; intro i;simp [lsts]
 unfold Lib.compact
 rw [h2,show (d.toList.map lst).length=(lsts lst d).size by simp [lsts]]
 have hlt:=h.lt
 rw [zdV] at hlt
 apply List.ext_getElem?
 intro i
 by_cases hi:i < kk
 ·rw [h.low i hi,zdx lst (by omega),List.getElem?_map,List.getElem?_take_of_lt hi,getElem!_pos dk i (by omega)]
  simp [show i < dk.size by omega]
 ·rw [List.getElem?_eq_none (by simp;omega),List.getElem?_eq_none (by rw [h.len];omega)]
theorem zjt {enc:α→Value} {w wr:World} {n blk off:Nat} {dk:Array α} {i:Nat} (hi:i < dk.size) (hwr:wr=(putRow enc w blk off dk).drewN n) (x:α) :
  wr.setCell ⟨blk,off+i,none⟩ (enc x)=(putRow enc w blk off (dk.setIfInBounds i x)).drewN n:=by
 subst hwr
 have:=putRow_set enc w blk off dk i x hi
 rw [← this]
 rfl
omit [Inhabited α] in
theorem zki:∀ (xs:List α) (d:Array α) (k:Nat),(lay d k xs).size=d.size
 | [],_,_=>rfl
 | x::r,d,k=>by rw [lay,zki r];simp
theorem zer (b n:Nat):∀ (vs:List Value) (o:Nat) (w:World),(w.drewN n).setCells b o vs=(w.setCells b o vs).drewN n
 | [],_,_=>rfl
 | v::r,o,w=>by
  simp only [World.setCells]
  exact zer b n r (o+1) (w.setCell ⟨b,o,none⟩ v)
set_option maxHeartbeats 4000000 in
set_option maxRecDepth 1000000 in
theorem Tryz.compactFunc (enc:α→Value) (hO:OneCell enc) (lst:α→List Int) (z:α) (hz:enc z=.slice none 0 0) (g:Nat) (blk off cap:Nat) (d:Array α) (w:World)
  (eg:∀ args w,(callFunc g args).run Tryz.prog w=.ok (.enter g args) w)
  (hcmp:∀ (m:Nat) (dk:Array α),dk.size=d.size→∀ x y:α,Calls Tryz.prog g #[enc x,enc y] ((putRow enc w blk off dk).drewN m) fun e w'=>e=.returned (.bool (decide (lst x=lst y)))∧∃ q,w'=((putRow enc w blk off dk).drewN m).drewN q)
  (hH:Holds enc w blk off d) (hsz:d.size < 4611686018427387904) (hcap:d.size≤cap) :
  Calls Tryz.prog 113 #[.slice (some ⟨blk,off,none⟩) d.size cap,.func (.func g) #[] #[]] w (zlZ lst enc w blk off cap d):=by
 have mixed:Tryz.prog.follows .mixedOrders=true:=by kernel_rfl
 have hcl0:=hO.cells
 simp only [Value.cells] at hcl0
 have hst:=hO.store Tryz.prog
 have HH:Hid (Holds enc w blk off d):=hH
 have HC:Aside (∀ (m:Nat) (dk:Array α),dk.size=d.size→∀ x y:α,Calls Tryz.prog g #[enc x,enc y] ((putRow enc w blk off dk).drewN m) fun e w'=>e=.returned (.bool (decide (lst x=lst y)))∧∃ q,w'=((putRow enc w blk off dk).drewN m).drewN q):=hcmp
 clear hcmp hH
 by_cases h2:d.size < 2
 ·go_enter Tryz.func113,Tryz.ntmps113
  go_wp2
  go_ret
  exact zkY lst enc HH.out 0 (fun j hj=>keeps_lt_one _ j (by omega))
 ·go_enter Tryz.func113,Tryz.ntmps113
  go_wp2
  go_loopg [5] d.size (fun g s5 wr=>∃ k q:Nat,1≤k∧k≤d.size∧d.size - k≤g∧s5=.int .i64 k∧wr=w.drewN q∧Hid (∀ j,j < k→keeps (lsts lst d) j=true))
  case atStart=>exact ⟨1,0,Nat.le_refl _,by omega,by omega,rfl,rfl,keeps_lt_one _⟩
  case round =>
   obtain ⟨k,q,hk1,hk,hg,rfl,rfl,hall⟩:=hrel
   by_cases hlt:k < d.size
   ·obtain ⟨c1,f1⟩:=HH.out k hlt
    obtain ⟨c0,f0⟩:=HH.out (k - 1) (by omega)
    have hc:∀ n,Calls Tryz.prog g #[enc d[k]!, enc d[k - 1]!] ((w.drewN q).drewN n) fun e w'=>e=.returned (.bool (decide (lst d[k]! = lst d[k - 1]!)))∧∃ q',w'=((w.drewN q).drewN n).drewN q':=fun n=>by
     have:=HC.out (q+n) d rfl d[k]! d[k - 1]!
     rw [putRow_self enc w blk off d HH.out,← World.drewN_drewN] at this
     exact this
    have B:Aside ((lsts lst d)[k]! = lst d[k]! ∧ (lsts lst d)[k - 1]! = lst d[k - 1]!):=⟨zdx lst hlt,zdx lst (by omega)⟩
    generalize d[k]! = x at *
    generalize d[k - 1]! = y at *
    have c1':(w.drewN q).cell? ⟨blk,off+k,none⟩=some (enc x):=c1
    obtain ⟨k1,rfl⟩:∃ k1,k=k1+1:=⟨k - 1,by omega⟩
    simp only [Nat.add_sub_cancel] at c0 f0 B
    have c0':(w.drewN q).cell? ⟨blk,off+k1,none⟩=some (enc y):=c0
    have hwp:IntKind.i64.wrap (k1:Int)=(k1:Int):=by rw [IntKind.wrap_i64];omega
    have jz:(k1:Int)+1 < (d.size:Int):=by omega
    have jz1:(k1:Int) < (d.size:Int):=by omega
    have p0:(0:Int)≤(k1:Int)+1:=by omega
    have e0:((k1:Int)+1).toNat=k1+1:=by omega
    clear c1 c0 f1 f0
    have WQ:Hid (w.drewN q=w.drewN q):=rfl
    generalize hwq:w.drewN q=wq at c1' c0' hc ⊢
    have HW:Hid (w.drewN q=wq):=hwq
    clear hwq WQ
    by_cases hdup:lst x=lst y
    ·have hd:decide (lst x=lst y)=true:=decide_eq_true hdup
     rw [hd] at hc
     clear hd
     go_wp2_with fail
     go_quiet_o (first | (go_at_fn g;refine Calls.quiet_of (hc _)))
     go_wp2_with fail
     go_wp2
     go_loopg [5,7] d.size (fun g s5 s7 wr=>∃ (kk kb q2:Nat) (dk:Array α),s5=.int .i64 kk∧s7=.int .i64 ((kb+1:Nat):Int)∧k1+1+(kb+1)≤d.size∧d.size - (k1+1+(kb+1))≤g∧dk.size=d.size∧wr=(putRow enc w blk off dk).drewN q2∧Hid (CompInv (lsts lst d) (k1+1+(kb+1)) kk (lsts lst dk)))
     case atStart =>
      refine ⟨k1+1,0,q+nq,d,by first | rfl | go_num,by first | rfl | go_num,by omega,by omega,rfl,?_,(show CompInv _ _ _ _ from ?_)⟩
      ·rw [← HW.out,World.drewN_drewN,putRow_self enc w blk off d HH.out]
      ·exact CompInv.start hall.out (keeps_neg (by omega) (by rw [B.out.1,Nat.add_sub_cancel,B.out.2];exact hdup))
     case round =>
      obtain ⟨kk,kb,q2,dk,rfl,rfl,hle,hg2,hds,hwr,hI⟩:=hrel
      have hHk:Holds enc wr blk off dk:=by rw [hwr];exact holds_putRow enc w blk off d dk HH.out hds
      have hkk:=hI.out.lt
      by_cases hlt2:k1+1+(kb+1) < d.size
      ·obtain ⟨cm,_⟩:=hHk (k1+1+(kb+1)) (by omega)
       obtain ⟨cp,_⟩:=hHk (k1+1+kb) (by omega)
       obtain ⟨ck,fk⟩:=hHk kk (by omega)
       have hc2:∀ n,Calls Tryz.prog g #[enc dk[k1+1+(kb+1)]!, enc dk[k1+1+kb]!] (wr.drewN n) fun e w'=>e=.returned (.bool (decide (lst dk[k1+1+(kb+1)]! = lst dk[k1+1+kb]!)))∧∃ q',w'=(wr.drewN n).drewN q':=fun n=>by
        have:=HC.out (q2+n) dk hds dk[k1+1+(kb+1)]! dk[k1+1+kb]!
        rw [← World.drewN_drewN,← hwr] at this
        exact this
       have B2:Aside ((lsts lst d)[k1+1+(kb+1)]! = lst dk[k1+1+(kb+1)]! ∧ (lsts lst d)[k1+1+kb]! = lst dk[k1+1+kb]!) :=
        ⟨by rw [← hI.out.high _ (by omega),zdx lst (by omega)],by rw [← hI.out.high _ (by omega),zdx lst (by omega)]⟩
       have HW2:Hid (wr=(putRow enc w blk off dk).drewN q2):=hwr
       clear hwr hHk
       rw [show off+(k1+1+(kb+1))=off+(k1+1)+(kb+1) by omega] at cm
       rw [show off+(k1+1+kb)=off+(k1+1)+kb by omega] at cp
       generalize dk[k1+1+(kb+1)]! = um at *
       generalize dk[k1+1+kb]! = up at *
       generalize dk[kk]! = old at ck
       have r1:(kb:Int)+1 < ((d.size - (k1+1):Nat):Int):=by omega
       have r2:(kb:Int) < ((d.size - (k1+1):Nat):Int):=by omega
       have r3:(0:Int)≤(kb:Int)+1:=by omega
       have r4:((kb:Int)+1).toNat=kb+1:=by omega
       have r5:IntKind.i64.wrap (kb:Int)=(kb:Int):=by rw [IntKind.wrap_i64];omega
       have r6:kk < d.size:=by omega
       by_cases hdup2:lst um=lst up
       ·have hd:decide (lst um=lst up)=true:=decide_eq_true hdup2
        rw [hd] at hc2
        clear hd
        go_wp2_with fail
        go_quiet_o (first | (go_at_fn g;refine Calls.quiet_of (hc2 _)))
        go_wp2
        go_roundg (d.size - (k1+1+(kb+1+1)))
        case measure=>omega
        case rel=>exact ⟨kk,kb+1,q2+nq,dk,rfl,by go_num,by omega,Nat.le_refl _,hds,by rw [HW2.out,World.drewN_drewN],hI.out.skip (keeps_neg (by omega) (by rw [B2.out.1,show k1+1+(kb+1) - 1=k1+1+kb by omega,B2.out.2];exact hdup2))⟩
       ·have hd:decide (lst um=lst up)=false:=decide_eq_false hdup2
        rw [hd] at hc2
        clear hd
        go_wp2_with fail
        go_quiet_o (first | (go_at_fn g;refine Calls.quiet_of (hc2 _)))
        go_wp2_with fail
        have cm2:(wr.drewN nq).cell? ⟨blk,off+(k1+1)+(kb+1),none⟩=some (enc um):=cm
        have ck2:(wr.drewN nq).cell? ⟨blk,off+kk,none⟩=some (enc old):=ck
        have fk2:(wr.drewN nq).frozen? ⟨blk,off+kk,none⟩=false:=fk
        clear cm cp ck fk hc2
        have HW3:Hid (wr.drewN nq=(putRow enc w blk off dk).drewN (q2+nq)):=by show _=_;rw [HW2.out,World.drewN_drewN]
        generalize wr.drewN nq=wr2 at cm2 ck2 fk2 HW3 ⊢
        go_wp2
        go_roundg (d.size - (k1+1+(kb+1+1)))
        case measure=>omega
        case rel =>
         refine ⟨kk+1,kb+1,q2+nq,dk.setIfInBounds kk um,by go_num,by go_num,by omega,Nat.le_refl _,by simpa using hds,zjt (by omega) HW3.out um,(show CompInv _ _ _ _ from ?_)⟩
         have:=hI.out.keep (by rw [zdV];omega) (keeps_pos (by rw [B2.out.1,show k1+1+(kb+1) - 1=k1+1+kb by omega,B2.out.2];exact hdup2))
         rw [B2.out.1] at this
         rw [zm2]
         exact this
      ·have hend:k1+1+(kb+1)=d.size:=by omega
       have hcl:∀ ty,(Builtin.clear_ #[56] ty #[.slice (some ⟨blk,off+kk,none⟩) (d.size - kk) (cap - kk)]).run Tryz.prog wr=.ok (.tuple #[]) (wr.setCells blk (off+kk) (List.replicate (d.size - kk) (.slice none 0 0))) :=
        fun ty=>Lib.run_clear_slice wr 56 27 ty (.slice none 0 0) Tryz.underlying56 Tryz.zeroValue27 rfl rfl blk (off+kk) _ _ (by omega) (fun j hj=>by rw [show off+kk+j=off+(kk+j) by omega,(hHk (kk+j) (by omega)).1];rfl) (fun j hj=>by rw [show off+kk+j=off+(kk+j) by omega];exact (hHk (kk+j) (by omega)).2)
       have HW2:Hid (wr=(putRow enc w blk off dk).drewN q2):=hwr
       clear hwr hHk
       have r1:¬ (kb:Int)+1 < ((d.size - (k1+1):Nat):Int):=by omega
       go_wp2
       go_ret
       have hI:=hI.out
       rw [hend] at hI
       have hkd:kk < d.size:=by omega
       refine ⟨lay dk kk (List.replicate (d.size - kk) z),q2,kk,rfl,?_,?_,by omega,?_⟩
       ·rw [zki];exact hds
       ·rw [HW2.out]
        have:=putRow_setCells enc w blk off (List.replicate (d.size - kk) z) dk kk (by simp;omega)
        rw [List.map_replicate,hz] at this
        rw [← this,zer]
       ·rw [← znS lst (by rw [zdV];exact hI) hds]
        congr 1
        apply List.ext_getElem?
        intro i
        rw [List.getElem?_take,List.getElem?_take]
        by_cases h:i < kk
        ·rw [if_pos h,if_pos h,Array.getElem?_toList,Array.getElem?_toList,lay_get? _ _ _ _ (by simp;omega),if_neg (by omega)]
        ·rw [if_neg h,if_neg h]
    ·have hd:decide (lst x=lst y)=false:=decide_eq_false hdup
     rw [hd] at hc
     clear hd
     go_wp2_with fail
     go_quiet_o (first | (go_at_fn g;refine Calls.quiet_of (hc _)))
     go_wp2
     go_roundg (d.size - (k1+1+1))
     case measure=>omega
     case rel =>
      refine ⟨k1+1+1,q+nq,by omega,by omega,Nat.le_refl _,by go_num,by rw [← HW.out,World.drewN_drewN],(show ∀ j,j < k1+1+1→keeps (lsts lst d) j=true from fun j hj=>?_)⟩
      by_cases e:j=k1+1
      ·subst e
       exact keeps_pos (by rw [B.out.1,Nat.add_sub_cancel,B.out.2];exact hdup)
      ·exact hall.out j (by omega)
   ·have:k=d.size:=by omega
    subst this
    go_wp2
    go_ret
    exact zkY lst enc HH.out q hall.out
end Go.Proofs
namespace Ovi
open Go Go.Proofs Go.RowKit Go.Sort Go.Lib Go.Shelf
theorem zmI {P:Program} {ρ:Ren} (L:SlLaysF.n6 P ρ) {g:FuncId} (eg:∀ args w,(callFunc g args).run P w=.ok (.enter g args) w) (hC:CmpC P g) (w:World) (S:Nat→Prop) (blk cap:Nat) (d:Array (HdL w S)) (hS:∀ k,S k→k < w.heap.size) (hn:¬ S blk) (hH:Holds encH w blk 0 d) (hb:blk < w.heap.size) (hsz:d.size < 4611686018427387904) :
  Calls P (ρ.f 6) #[.slice (some ⟨blk,0,none⟩) d.size cap,.func (.func g) #[] #[]] w fun e w'=>e=.returned (.tuple #[])∧∃ (d':Array (HdL w S)) (n:Nat) (os:Array Obj),PermIn 0 d.size d d'∧SortedIn (ltOf cmpH) 0 d.size d'∧w'=sortWorld encH w blk 0 n d' os :=
 Any.slices_SortFunc L encH (fun x=>by
  obtain ⟨v,l,⟨A,c,rfl,_⟩,_⟩:=x
  rfl) cmpH swoH g #[] blk 0 cap d w eg (fun m os dk hs x y=>by
  have:=hC (sortWorld encH w blk 0 m dk os) S (encH x) (encH y) (lstH x) (lstH y) (x.h.stab (zbK dk hS hn)) (y.h.stab (zbK dk hS hn)) x.b y.b
  exact this) hH hb hsz
end Ovi
namespace Ovi
open Go Go.Proofs Go.RowKit Go.Sort Go.Lib
section
variable {α β:Type} [Inhabited α] [Inhabited β]
def ixs (d:Array α):Array (Option (Fin d.size)):=Array.ofFn fun i=>some i
omit [Inhabited α] in
theorem zbn (d:Array α):(ixs d).size=d.size:=by simp [ixs]
def decX (z:α) (d:Array α):Option (Fin d.size)→α
 | none=>z
 | some i=>d[i]
omit [Inhabited α] in
theorem ziB (z:α) (d:Array α):(ixs d).map (decX z d)=d:=by
 apply Array.ext
 ·simp [ixs]
 ·intro i h1 h2
  simp [ixs,decX]
theorem ziV (enc:α→List Value) (g:β→α) (k:Nat) (dk:Array β):flatK (fun x=>enc (g x)) k dk=flatK enc k (dk.map g):=by
 unfold flatK
 rw [Array.size_map]
 apply Array.map_congr_left
 intro t ht
 have ht:t < dk.size * k:=by simpa using ht
 have hk:0 < k:=by
  rcases Nat.eq_zero_or_pos k with h | h
  ·subst h;simp at ht
  ·exact h
 have h1:t / k < dk.size:=Nat.div_lt_of_lt_mul (by rwa [Nat.mul_comm])
 rw [getElem!_pos dk _ h1,getElem!_pos (dk.map g) _ (by simpa using h1),Array.getElem_map]
theorem zeu (enc:α→List Value) (g:β→α) (k:Nat) (w:World) (b n:Nat) (dk:Array β) (os:Array Obj):sortWorldK (fun x=>enc (g x)) k w b 0 n dk os=sortWorldK enc k w b 0 n (dk.map g) os:=by
 unfold sortWorldK putRowK
 rw [ziV]
theorem zks (enc:α→Value) (g:β→α) (o:Nat) (dk:Array β) (c:Array Value):putCells (fun x=>enc (g x)) o dk c=putCells enc o (dk.map g) c:=by
 unfold putCells
 congr 1
 funext k x
 rw [Array.size_map]
 by_cases h:o≤k∧k < o+dk.size
 ·rw [if_pos h,if_pos h,getElem!_pos dk _ (by omega),getElem!_pos (dk.map g) _ (by simp;omega),Array.getElem_map]
 ·rw [if_neg h,if_neg h]
theorem zh0 (enc:α→Value) (g:β→α) (w:World) (b o:Nat) (dk:Array β):putRow (fun x=>enc (g x)) w b o dk=putRow enc w b o (dk.map g):=by
 unfold putRow
 congr 1
 funext c
 exact zks enc g o dk c
theorem zmh (enc:α→Value) (g:β→α) (w:World) (b o:Nat) (dk:Array β) (h:Holds enc w b o (dk.map g)):Holds (fun x=>enc (g x)) w b o dk:=by
 intro j hj
 have:=h j (by simpa using hj)
 rw [getElem!_pos (dk.map g) _ (by simpa using hj),Array.getElem_map] at this
 rw [getElem!_pos dk _ hj]
 exact this
omit [Inhabited α] in
theorem zk0 (z:α) (d:Array α) (dk:Array (Option (Fin d.size))):∀ h∈(dk.map (decX z d)).toList,h∈d.toList∨h=z:=by
 intro h hh
 rw [Array.toList_map,List.mem_map] at hh
 obtain ⟨x,_,rfl⟩:=hh
 cases x with
 | none=>exact .inr rfl
 | some i=>exact .inl (by simp [decX])
omit [Inhabited α] in
theorem zj5 {γ:Type} (z:α) (d:Array α) (dk:Array (Option (Fin d.size))) (kk:Nat) (lst:α→γ):(dk.toList.take kk).map (fun x=>lst (decX z d x))=((dk.map (decX z d)).toList.take kk).map lst:=by
 rw [Array.toList_map,← List.map_take,List.map_map]
 rfl
omit [Inhabited α] in
theorem zkZ {γ:Type} (z:α) (d:Array α) (lst:α→γ):(ixs d).toList.map (fun x=>lst (decX z d x))=d.toList.map lst:=by
 have:=congrArg Array.toList (ziB z d)
 rw [Array.toList_map] at this
 conv=>rhs;rw [← this,List.map_map]
 rfl
end
end Ovi
namespace Go.Proofs
open Go.Shelf Go.RowKit Go.Lib Go.Sort Ovi
theorem zob {w:World} {S:Nat→Prop} {d d':Array (HdL w S)} (h1:PermIn 0 d.size d d') (h2:SortedIn (ltOf cmpH) 0 d.size d'):d'.size=d.size∧d'.toList.map lstH=zA (d.toList.map lstH)∧∀ h∈d'.toList,h∈d.toList:=by
 obtain ⟨p1,_,p3⟩:=h1
 have hext:∀ (a:Array (HdL w S)) (m:Nat),a.size=m→a.extract 0 m=a:=fun a m hm=>by subst hm;exact Array.extract_size
 rw [hext d' _ p1,hext d _ rfl] at p3
 refine ⟨p1,zfc (p3.map _) ?_,fun h hh=>p3.mem_iff.1 hh⟩
 rw [List.pairwise_map,List.pairwise_iff_getElem]
 intro i j hi hj hij
 have hi':i < d'.size:=by simpa using hi
 have hj':j < d'.size:=by simpa using hj
 have:=h2 i j (Nat.zero_le _) hij (by omega)
 rw [getElem!_pos d' j hj',getElem!_pos d' i hi'] at this
 exact this
theorem oneH {w:World} {S:Nat→Prop}:OneCell (encH (w:=w) (S:=S)):=fun x=>by
 obtain ⟨v,l,⟨A,c,rfl,_⟩,_⟩:=x
 rfl
def znK {w0:World} {S:Nat→Prop} (w:World) (blk cap:Nat) (d:Array (HdL w0 S)) (e:Ending) (w':World):Prop :=
 ∃ (dk:Array (HdL w0 S)) (q kk:Nat),e=.returned (.slice (some ⟨blk,0,none⟩) kk cap)∧dk.size=d.size∧w'=(putRow encH w blk 0 dk).drewN q∧kk≤d.size∧(dk.toList.take kk).map lstH=Lib.compact (d.toList.map lstH)∧∀ h∈dk.toList,h∈d.toList∨lstH h=[]
set_option maxHeartbeats 4000000 in
set_option maxRecDepth 1000000 in
theorem Tryz.rowsSet (hsort:∀ (w:World) (S:Nat→Prop) (blk cap:Nat) (d:Array (HdL w S)),(∀ k,S k→k < w.heap.size)→¬ S blk→Holds encH w blk 0 d→blk < w.heap.size→d.size < 4611686018427387904 →
   Calls Tryz.prog 111 #[.slice (some ⟨blk,0,none⟩) d.size cap,.func (.func 112) #[] #[]] w fun e w'=>e=.returned (.tuple #[])∧∃ (d':Array (HdL w S)) (n:Nat) (os:Array Obj),PermIn 0 d.size d d'∧SortedIn (ltOf cmpH) 0 d.size d'∧w'=sortWorld encH w blk 0 n d' os)
  (w:World) (S:Nat→Prop) (blk cap:Nat) (d:Array (HdL w S)) (hS:∀ k,S k→k < w.heap.size) (hn:¬ S blk) (hH:Holds encH w blk 0 d) (hb:blk < w.heap.size) (hsz:d.size < 4611686018427387904) (hcap:d.size≤cap) :
  Calls Tryz.prog 62 #[.slice (some ⟨blk,0,none⟩) d.size cap] w (ziq w S blk cap d):=by
 have h1:=hsort w S blk cap d hS hn hH hb hsz
 have h2:∀ (d1:Array (HdL w S)) (n:Nat) (os:Array Obj),d1.size=d.size→Calls Tryz.prog 113 #[.slice (some ⟨blk,0,none⟩) d.size cap,.func (.func 114) #[] #[]] (sortWorld encH w blk 0 n d1 os) (znK (sortWorld encH w blk 0 n d1 os) blk cap d1):=by
  intro d1 n os hd1
  rw [← hd1]
  have hst1:=zbK (enc:=encH) (n:=n) (os:=os) d1 hS hn
  have hS1:∀ k,S k→k < (sortWorld encH w blk 0 n d1 os).heap.size:=fun k hk=>by
   have:=hS k hk
   simp only [sortWorld,grow,putRow,mapBlock,Sort.ahead,Array.size_append,Array.size_modify]
   omega
  have hH1:Holds encH (sortWorld encH w blk 0 n d1 os) blk 0 d1:=by
   have:sortWorld encH w blk 0 n d1 os=grow (putRow encH (Sort.ahead w n) blk 0 d1) os:=rfl
   rw [this]
   exact holds_grow _ _ _ _ _ _ (by simpa [putRow,mapBlock,Sort.ahead] using hb) (holds_putRow encH (Sort.ahead w n) blk 0 d d1 (holds_ahead encH w n blk 0 d hH) hd1)
  have hc:=Tryz.compactFunc (fun x=>encH (decX default d1 x)) (fun x=>oneH _) (fun x=>lstH (decX default d1 x)) none rfl 114 blk 0 cap (ixs d1) (sortWorld encH w blk 0 n d1 os) (enters_of Tryz.func114 (by kernel_rfl) rfl) (fun m dk hdk x y=>by
   rw [zh0]
   have hst2:=zbK (enc:=encH) (w:=sortWorld encH w blk 0 n d1 os) (n:=m) (os:=#[]) (dk.map (decX default d1)) hS1 hn
   have:=Tryz.eqC (sortWorld encH (sortWorld encH w blk 0 n d1 os) blk 0 m (dk.map (decX default d1)) #[]) S (encH (decX default d1 x)) (encH (decX default d1 y)) (lstH (decX default d1 x)) (lstH (decX default d1 y)) ((decX default d1 x).h.stab (hst1.trans hst2)) ((decX default d1 y).h.stab (hst1.trans hst2)) (decX default d1 x).b (decX default d1 y).b
   rw [sortWorld_none] at this
   exact this) (zmh encH (decX default d1) _ blk 0 (ixs d1) (by rw [ziB];exact hH1)) (by rw [zbn];omega) (by rw [zbn];omega)
  rw [zbn] at hc
  refine hc.mono fun e w' ⟨dk,q,kk,k1,k2,k3,k4,k5⟩=>⟨dk.map (decX default d1),q,kk,k1,by rw [Array.size_map,k2,zbn],by rw [k3,zh0],by rw [zbn] at k4;exact k4,?_,fun h hh=>?_⟩
  ·rw [← zj5,k5,zkZ]
  ·rcases zk0 default d1 dk h hh with hm | rfl
   ·exact .inl hm
   ·exact .inr rfl
 have H2:Aside _:=h2
 clear h2 hsort hH
 go_enter Tryz.func62,Tryz.ntmps62
 go_wp2_with (go_at_call 111;refine h1.mono ?_;rintro e w1 ⟨rfl,hp⟩)
 obtain ⟨d1,n,os,p1,p2,hw1⟩:=hp
 obtain ⟨q1,q2,q3⟩:=zob p1 p2
 subst hw1
 refine (H2.out d1 n os q1).mono ?_
 rintro e w2 ⟨dk,q,kk,rfl,k2,k3,k4,k5,k6⟩
 have R:Hid (ziq w S blk cap d (.returned (.slice (some ⟨blk,0,none⟩) kk cap)) w2):=⟨d1,dk,n,q,kk,os,rfl,q1,by omega,by rw [k3,sortWorld_none],by omega,by rw [k5,q2],fun h hh=>(k6 h hh).imp (q3 h) fun h=>h⟩
 clear k2 k3 k4 k5 k6 q1 q2 q3 p1 p2 H2 h1
 go_wp2
 go_ret
 exact R.out
end Go.Proofs
namespace Go.Proofs
open Go.Shelf Go.RowKit Go.Lib Go.Sort
section
variable {α:Type} [Inhabited α]
def ats (lst:α→Int × List Int) (d:Array α):Array (Int × List Int):=d.map lst
omit [Inhabited α] in
theorem zeD (lst:α→Int × List Int) (d:Array α):(ats lst d).size=d.size:=by simp [ats]
theorem zea (lst:α→Int × List Int) {d:Array α} {k:Nat} (h:k < d.size):(ats lst d)[k]! = lst d[k]! := by
 rw [getElem!_pos _ k (by rw [zeD];exact h),getElem!_pos d k h]
 simp [ats]
omit [Inhabited α] in
theorem znO (lst:α→Int × List Int) (d:Array α) (k:Nat) (x:α):ats lst (d.setIfInBounds k x)=(ats lst d).setIfInBounds k (lst x):=by
 unfold ats
 apply Array.ext_getElem?
 intro i
 simp only [Array.getElem?_map,Array.getElem?_setIfInBounds,Array.size_map]
 by_cases h:k=i
 ·subst h
  simp only [if_true]
  split<;>rfl
 ·simp [h]
def zlX (lst:α→Int × List Int) (enc:α→List Value) (w:World) (blk off cap:Nat) (d:Array α) (e:Ending) (w':World):Prop :=
 ∃ (dk:Array α) (kk:Nat),e=.returned (.slice (some ⟨blk,off,none⟩) kk cap)∧dk.size=d.size∧SWK enc 2 w blk off dk w'∧kk≤d.size∧(dk.toList.take kk).map lst=Lib.compact (d.toList.map lst)
theorem zkW (lst:α→Int × List Int) (enc:α→List Value) {w w':World} {blk off cap:Nat} {d:Array α} (hS:SWK enc 2 w blk off d w') (hall:∀ j,j < d.size→keeps (ats lst d) j=true):zlX lst enc w blk off cap d (.returned (.slice (some ⟨blk,off,none⟩) d.size cap)) w':=by
 refine ⟨d,d.size,rfl,rfl,hS,Nat.le_refl _,?_⟩
 rw [show d.size=d.toList.length by simp,List.take_length]
 have:=compact_all (d.toList.map lst) (fun j hj=>by
  have h2:(d.toList.map lst).toArray=ats lst d:=by apply Array.ext_getElem?; intro i;simp [ats]
  rw [h2]
  exact hall j (by simpa using hj))
 exact this.symm
theorem znP (lst:α→Int × List Int) {d dk:Array α} {kk:Nat} (h:CompInv (ats lst d) (ats lst d).size kk (ats lst dk)) (hs:dk.size=d.size):(dk.toList.take kk).map lst=Lib.compact (d.toList.map lst):=by
 have h2:(d.toList.map lst).toArray=ats lst d:=by apply Array.ext_getElem?; intro i;simp [ats]
 unfold Lib.compact
 rw [h2,show (d.toList.map lst).length=(ats lst d).size by simp [ats]]
 have hlt:=h.lt
 rw [zeD] at hlt
 apply List.ext_getElem?
 intro i
 by_cases hi:i < kk
 ·rw [h.low i hi,zea lst (by omega),List.getElem?_map,List.getElem?_take_of_lt hi,getElem!_pos dk i (by omega)]
  simp [show i < dk.size by omega]
 ·rw [List.getElem?_eq_none (by simp;omega),List.getElem?_eq_none (by rw [h.len];omega)]
omit [Inhabited α] in
theorem lay_size':∀ (xs:List α) (d:Array α) (k:Nat),(lay d k xs).size=d.size
 | [],_,_=>rfl
 | x::r,d,k=>by rw [lay,lay_size' r];simp
def zjJ (P:Program) (g:Nat) (enc:α→List Value) (lst:α→Int × List Int) (blk off size:Nat) (w:World):Prop :=
 ∀ (m:Nat) (os:Array Obj) (dk:Array α),dk.size=size→∀ x y:α,
  Calls P g #[.agg (enc x).toArray,.agg (enc y).toArray] (sortWorldK enc 2 w blk off m dk os) fun e w'=>e=.returned (.bool (decide (lst x=lst y)))∧∃ q os',w'=grow ((sortWorldK enc 2 w blk off m dk os).drewN q) os'
theorem SWK.eqc {P:Program} {enc:α→List Value} {lst:α→Int × List Int} {w0 W:World} {blk off:Nat} {dk:Array α} {g size:Nat} (h:SWK enc 2 w0 blk off dk W) (hC:zjJ P g enc lst blk off size w0) (hs:dk.size=size) (x y:α) (n:Nat) (os:Array Obj) :
  Calls P g #[.agg (enc x).toArray,.agg (enc y).toArray] (grow (W.drewN n) os) fun e w'=>e=.returned (.bool (decide (lst x=lst y)))∧∃ q os',w'=grow ((grow (W.drewN n) os).drewN q) os':=by
 obtain ⟨m,os0,hw⟩:=h.grown n os
 rw [hw]
 exact hC m os0 dk hs x y
theorem SWK.cells2 {enc:α→List Value} {w0 W:World} {blk off:Nat} {dk d0:Array α} (h:SWK enc 2 w0 blk off dk W) (R:RowK enc 2 w0 blk off d0) (hs:dk.size=d0.size) (i:Nat) (hi:i < dk.size) :
  W.cell? ⟨blk,off+i * 2,none⟩=some (enc dk[i]!)[0]! ∧ W.cell? ⟨blk,off+i * 2+1,none⟩=some (enc dk[i]!)[1]! ∧ W.frozen? ⟨blk,off+i * 2,none⟩=false∧W.frozen? ⟨blk,off+i * 2+1,none⟩=false:=by
 have hH:=h.holds R.hblk R.hH hs
 have h0:=hH.cell (c:=0) hi (by omega)
 have h1:=hH.cell (c:=1) hi (by omega)
 exact ⟨h0.1,h1.1,h0.2,h1.2⟩
theorem two {l:List Value} (h:l.length=2):l=[l[0]!, l[1]!]:=by
 match l,h with
 | [a,b],_=>rfl
set_option maxHeartbeats 8000000 in
set_option maxRecDepth 1000000 in
theorem Tryz.compactFacts (enc:α→List Value) (lst:α→Int × List Int) (z:α) (hz:enc z=[.int .i64 0,.slice none 0 0]) (g:Nat) (blk off cap:Nat) (d:Array α) (w:World) (R:RowK enc 2 w blk off d)
  (eg:∀ args w,(callFunc g args).run Tryz.prog w=.ok (.enter g args) w) (hcmp:zjJ Tryz.prog g enc lst blk off d.size w)
  (hsz:d.size < 4611686018427387904) (hcap:d.size≤cap) :
  Calls Tryz.prog 151 #[.slice (some ⟨blk,off,none⟩) d.size cap,.func (.func g) #[] #[]] w (zlX lst enc w blk off cap d):=by
 have mixed:Tryz.prog.follows .mixedOrders=true:=by kernel_rfl
 have RR:Aside (RowK enc 2 w blk off d):=R
 have HC:Aside (zjJ Tryz.prog g enc lst blk off d.size w):=hcmp
 have S0:Aside (SWK enc 2 w blk off d w):=SWK.start R.hH
 clear hcmp R
 by_cases h2:d.size < 2
 ·go_enter Tryz.func151,Tryz.ntmps151
  go_wp2
  go_ret
  exact zkW lst enc S0.out (fun j hj=>keeps_lt_one _ j (by omega))
 ·go_enter Tryz.func151,Tryz.ntmps151
  go_wp2
  go_loopg [5] d.size (fun g s5 wr=>∃ k:Nat,1≤k∧k≤d.size∧d.size - k≤g∧s5=.int .i64 k∧Aside (SWK enc 2 w blk off d wr)∧Hid (∀ j,j < k→keeps (ats lst d) j=true))
  case atStart=>exact ⟨1,Nat.le_refl _,by omega,by omega,rfl,S0,keeps_lt_one _⟩
  case round =>
   clear S0
   obtain ⟨k,hk1,hk,hg,rfl,S1,hall⟩:=hrel
   by_cases hlt:k < d.size
   ·obtain ⟨k1,rfl⟩:∃ k1,k=k1+1:=⟨k - 1,by omega⟩
    have cj0:=fun n os=>((S1.out.grown n os).cells2 RR.out rfl (k1+1) hlt).1
    have cj1:=fun n os=>((S1.out.grown n os).cells2 RR.out rfl (k1+1) hlt).2.1
    have cp0:=fun n os=>((S1.out.grown n os).cells2 RR.out rfl k1 (by omega)).1
    have cp1:=fun n os=>((S1.out.grown n os).cells2 RR.out rfl k1 (by omega)).2.1
    have hcg:=fun n os=>S1.out.eqc HC.out rfl d[k1+1]! d[k1]! n os
    have B:Aside ((ats lst d)[k1+1]! = lst d[k1+1]! ∧ (ats lst d)[k1]! = lst d[k1]!):=⟨zea lst hlt,zea lst (by omega)⟩
    have hx2:(enc d[k1+1]!).length=2:=RR.out.hk _
    have hy2:(enc d[k1]!).length=2:=RR.out.hk _
    generalize d[k1+1]! = x at *
    generalize d[k1]! = y at *
    rw [two hx2,two hy2] at hcg
    generalize (enc x)[0]! = x0 at *
    generalize (enc x)[1]! = x1 at *
    generalize (enc y)[0]! = y0 at *
    generalize (enc y)[1]! = y1 at *
    clear hx2 hy2
    have hwp:IntKind.i64.wrap (k1:Int)=(k1:Int):=by rw [IntKind.wrap_i64];omega
    have jz:(k1:Int)+1 < (d.size:Int):=by omega
    have jz1:(k1:Int) < (d.size:Int):=by omega
    have p0:(0:Int)≤(k1:Int)+1:=by omega
    have e0:((k1:Int)+1).toNat=k1+1:=by omega
    by_cases hdup:lst x=lst y
    ·have hd:decide (lst x=lst y)=true:=decide_eq_true hdup
     rw [hd] at hcg
     clear hd
     go_wp2_with fail
     go_quiet_grown (first | (go_at_fn g;refine Calls.grown_of (hcg _ _)))
     go_wp2_with fail
     go_wp2
     go_loopg [5,7] d.size (fun g s5 s7 wr=>∃ (kk kb:Nat) (dk:Array α),s5=.int .i64 kk∧s7=.int .i64 ((kb+1:Nat):Int)∧k1+1+(kb+1)≤d.size∧d.size - (k1+1+(kb+1))≤g∧dk.size=d.size∧Aside (SWK enc 2 w blk off dk wr)∧Hid (CompInv (ats lst d) (k1+1+(kb+1)) kk (ats lst dk)))
     case atStart =>
      refine ⟨k1+1,0,d,by first | rfl | go_num,by first | rfl | go_num,by omega,by omega,rfl,S1.out.grown nq osq,(show CompInv _ _ _ _ from ?_)⟩
      exact CompInv.start hall.out (keeps_neg (by omega) (by rw [B.out.1,Nat.add_sub_cancel,B.out.2];exact hdup))
     case round =>
      clear S1 cj0 cj1 cp0 cp1 hcg
      obtain ⟨kk,kb,dk,rfl,rfl,hle,hg2,hds,S3,hI⟩:=hrel
      have hkk:=hI.out.lt
      by_cases hlt2:k1+1+(kb+1) < d.size
      ·have cm0:=fun n os=>((S3.out.grown n os).cells2 RR.out hds (k1+1+(kb+1)) (by omega)).1
       have cm1:=fun n os=>((S3.out.grown n os).cells2 RR.out hds (k1+1+(kb+1)) (by omega)).2.1
       have cp0:=fun n os=>((S3.out.grown n os).cells2 RR.out hds (k1+1+kb) (by omega)).1
       have cp1:=fun n os=>((S3.out.grown n os).cells2 RR.out hds (k1+1+kb) (by omega)).2.1
       have hcg:=fun n os=>S3.out.eqc HC.out hds dk[k1+1+(kb+1)]! dk[k1+1+kb]! n os
       have B2:Aside ((ats lst d)[k1+1+(kb+1)]! = lst dk[k1+1+(kb+1)]! ∧ (ats lst d)[k1+1+kb]! = lst dk[k1+1+kb]!) :=
        ⟨by rw [← hI.out.high _ (by omega),zea lst (by omega)],by rw [← hI.out.high _ (by omega),zea lst (by omega)]⟩
       rw [show off+(k1+1+(kb+1)) * 2=off+(k1+1) * 2+(kb+1) * 2 by omega] at cm0 cm1
       rw [show off+(k1+1+kb) * 2=off+(k1+1) * 2+kb * 2 by omega] at cp0 cp1
       have hx2:(enc dk[k1+1+(kb+1)]!).length=2:=RR.out.hk _
       have hy2:(enc dk[k1+1+kb]!).length=2:=RR.out.hk _
       have hu1:=RR.out.h1 dk[k1+1+(kb+1)]!
       generalize dk[k1+1+(kb+1)]! = um at *
       generalize dk[k1+1+kb]! = up at *
       have E:Aside (enc um=[(enc um)[0]!, (enc um)[1]!]):=two hx2
       rw [two hx2,two hy2] at hcg
       rw [two hx2] at hu1
       have o0:(enc um)[0]!.oneCell'=true:=hu1 _ (by simp)
       have o1:(enc um)[1]!.oneCell'=true:=hu1 _ (by simp)
       generalize (enc um)[0]! = m0 at *
       generalize (enc um)[1]! = m1 at *
       generalize (enc up)[0]! = p0' at *
       generalize (enc up)[1]! = p1' at *
       clear hx2 hy2 hu1
       have r1:(kb:Int)+1 < ((d.size - (k1+1):Nat):Int):=by omega
       have r2:(kb:Int) < ((d.size - (k1+1):Nat):Int):=by omega
       have r3:(0:Int)≤(kb:Int)+1:=by omega
       have r4:((kb:Int)+1).toNat=kb+1:=by omega
       have r5:IntKind.i64.wrap (kb:Int)=(kb:Int):=by rw [IntKind.wrap_i64];omega
       have r6:kk < d.size:=by omega
       by_cases hdup2:lst um=lst up
       ·have hd:decide (lst um=lst up)=true:=decide_eq_true hdup2
        rw [hd] at hcg
        clear hd
        go_wp2_with fail
        go_quiet_grown (first | (go_at_fn g;refine Calls.grown_of (hcg _ _)))
        go_wp2
        go_roundg (d.size - (k1+1+(kb+1+1)))
        case measure=>omega
        case rel=>exact ⟨kk,kb+1,dk,rfl,by go_num,by omega,Nat.le_refl _,hds,S3.out.grown nq osq,hI.out.skip (keeps_neg (by omega) (by rw [B2.out.1,show k1+1+(kb+1) - 1=k1+1+kb by omega,B2.out.2];exact hdup2))⟩
       ·have hd:decide (lst um=lst up)=false:=decide_eq_false hdup2
        rw [hd] at hcg
        clear hd
        go_wp2_with fail
        go_quiet_grown (first | (go_at_fn g;refine Calls.grown_of (hcg _ _)))
        go_wp2_with fail
        have S4:Aside (SWK enc 2 w blk off dk (grow (wr.drewN nq) osq)):=S3.out.grown nq osq
        have cm02:=cm0 nq osq
        have cm12:=cm1 nq osq
        obtain ⟨ck0,ck1,fk0,fk1⟩:=S4.out.cells2 RR.out hds kk (by omega)
        clear cm0 cm1 cp0 cp1 hcg S3
        generalize grow (wr.drewN nq) osq=wr4 at cm02 cm12 ck0 ck1 fk0 fk1 S4 ⊢
        generalize (enc dk[kk]!)[0]! = k0 at *
        generalize (enc dk[kk]!)[1]! = k1' at *
        have hst0:Sem.run Tryz.prog (store ⟨blk,off+kk * 2,none⟩ m0) wr4=.ok () (wr4.setCell ⟨blk,off+kk * 2,none⟩ m0):=by rw [run_store Tryz.prog _ _ _ _ o0,ck0];simp [fk0]
        have hst1:Sem.run Tryz.prog (store ⟨blk,off+kk * 2+1,none⟩ m1) (wr4.setCell ⟨blk,off+kk * 2,none⟩ m0)=.ok () ((wr4.setCell ⟨blk,off+kk * 2,none⟩ m0).setCell ⟨blk,off+kk * 2+1,none⟩ m1):=by
         rw [run_store Tryz.prog _ _ _ _ o1,World.cell?_setCell_other _ _ _ _ (by simp),ck1,World.frozen?_setCell];simp [fk1]
        have S5:Aside (SWK enc 2 w blk off (dk.setIfInBounds kk um) ((wr4.setCell ⟨blk,off+kk * 2,none⟩ m0).setCell ⟨blk,off+kk * 2+1,none⟩ m1)):=by
         have:=S4.out.set RR.out kk (by omega) um
         rw [E.out] at this
         exact this
        generalize (wr4.setCell ⟨blk,off+kk * 2,none⟩ m0).setCell ⟨blk,off+kk * 2+1,none⟩ m1=wr5 at hst1 S5
        generalize wr4.setCell ⟨blk,off+kk * 2,none⟩ m0=wr45 at hst0 hst1
        go_wp2
        simp only [hst0,hst1,Result.andThen_ok]
        go_wp2
        go_roundg (d.size - (k1+1+(kb+1+1)))
        case measure=>omega
        case rel =>
         refine ⟨kk+1,kb+1,dk.setIfInBounds kk um,by go_num,by go_num,by omega,Nat.le_refl _,by simpa using hds,S5,(show CompInv _ _ _ _ from ?_)⟩
         have:=hI.out.keep (by rw [zeD];omega) (keeps_pos (by rw [B2.out.1,show k1+1+(kb+1) - 1=k1+1+kb by omega,B2.out.2];exact hdup2))
         rw [B2.out.1] at this
         rw [znO]
         exact this
      ·have hend:k1+1+(kb+1)=d.size:=by omega
       have hcl:∀ ty,(Builtin.clear_ #[31] ty #[.slice (some ⟨blk,off+kk * 2,none⟩) (d.size - kk) (cap - kk)]).run Tryz.prog wr=.ok (.tuple #[]) (wr.setCells blk (off+kk * 2) (List.replicate (d.size - kk) (enc z)).flatten) :=
        fun ty=>S3.out.clear RR.out hds Tryz.prog 31 114 ty z (.agg #[.int .i64 0,.slice none 0 0]) Tryz.underlying31 Tryz.zeroValue114 (by rw [hz];rfl) (by omega) kk (d.size - kk) (cap - kk) (by omega) (by omega)
       have S4:Aside (SWK enc 2 w blk off (Lib.lay dk kk (List.replicate (d.size - kk) z)) (wr.setCells blk (off+kk * 2) (List.replicate (d.size - kk) (enc z)).flatten)):=SWK.lay RR.out z (d.size - kk) kk dk wr S3.out (by omega)
       generalize wr.setCells blk (off+kk * 2) (List.replicate (d.size - kk) (enc z)).flatten=wr6 at hcl S4
       have r1:¬ (kb:Int)+1 < ((d.size - (k1+1):Nat):Int):=by omega
       clear S3
       go_wp2
       go_ret
       have hI:=hI.out
       rw [hend] at hI
       refine ⟨Lib.lay dk kk (List.replicate (d.size - kk) z),kk,rfl,?_,S4.out,by omega,?_⟩
       ·rw [lay_size'];exact hds
       ·rw [← znP lst (by rw [zeD];exact hI) hds]
        congr 1
        apply List.ext_getElem?
        intro i
        rw [List.getElem?_take,List.getElem?_take]
        by_cases h:i < kk
        ·rw [if_pos h,if_pos h,Array.getElem?_toList,Array.getElem?_toList,lay_get? _ _ _ _ (by simp;omega),if_neg (by omega)]
        ·rw [if_neg h,if_neg h]
    ·have hd:decide (lst x=lst y)=false:=decide_eq_false hdup
     rw [hd] at hcg
     clear hd
     go_wp2_with fail
     go_quiet_grown (first | (go_at_fn g;refine Calls.grown_of (hcg _ _)))
     go_wp2
     go_roundg (d.size - (k1+1+1))
     case measure=>omega
     case rel =>
      refine ⟨k1+1+1,by omega,by omega,Nat.le_refl _,by go_num,S1.out.grown nq osq,(show ∀ j,j < k1+1+1→keeps (ats lst d) j=true from fun j hj=>?_)⟩
      by_cases e:j=k1+1
      ·subst e
       exact keeps_pos (by rw [B.out.1,Nat.add_sub_cancel,B.out.2];exact hdup)
      ·exact hall.out j (by omega)
   ·have:k=d.size:=by omega
    subst this
    go_wp2
    go_ret
    exact zkW lst enc S1.out hall.out
end
end Go.Proofs
namespace Go.Proofs
open Go.Shelf Go.RowKit Go.Lib Go.Sort Ovi
def cmpA (x y:Int × List Int):Int:=if x.1 < y.1 then -1 else if x.1 > y.1 then 1 else cmpL x.2 y.2
set_option maxHeartbeats 4000000 in
set_option maxRecDepth 1000000 in
theorem Tryz.or2 (b c:Nat) (x y:Int) (w:World) (h0:w.cell? ⟨b,0,none⟩=some (.int .i64 x)) (h1:w.cell? ⟨b,1,none⟩=some (.int .i64 y)) :
  Calls Tryz.prog 132 #[.slice (some ⟨b,0,none⟩) 2 c] w fun e w'=>e=.returned (.int .i64 (if x=0 then y else x))∧w'=w:=by
 go_enter Tryz.func132,Tryz.ntmps132
 go_wp2
 go_loopg [8] 2 (fun g s8 wr=>∃ i:Nat,i≤2∧2 - i≤g∧s8=.int .i64 i∧wr=w∧(1≤i→x=0)∧(2≤i→y=0))
 case atStart=>exact ⟨0,by omega,by omega,rfl,rfl,fun h=>by omega,fun h=>by omega⟩
 case round =>
  obtain ⟨i,hi,hg,rfl,rfl,hx,hy⟩:=hrel
  match i,hi with
  | 0,_ =>
   by_cases hx0:x=0
   ·subst hx0
    go_wp2
    go_roundg 1
    case measure=>omega
    case rel=>exact ⟨1,by omega,by omega,by first | rfl | go_num,rfl,fun _=>by first | trivial | rfl,fun h=>by omega⟩
   ·go_wp2
    go_ret
    exact ⟨rfl,rfl⟩
  | 1,_ =>
   obtain rfl:=hx (by omega)
   by_cases hy0:y=0
   ·subst hy0
    go_wp2
    go_roundg 0
    case measure=>omega
    case rel=>exact ⟨2,by omega,by omega,by first | rfl | go_num,rfl,fun _=>by first | trivial | rfl,fun _=>by first | trivial | rfl⟩
   ·go_wp2
    go_ret
    exact ⟨rfl,rfl⟩
  | 2,_ =>
   obtain rfl:=hx (by omega)
   obtain rfl:=hy (by omega)
   go_wp2
   go_ret
   exact ⟨rfl,rfl⟩
set_option maxHeartbeats 40000000 in
set_option maxRecDepth 1000000 in
theorem Tryz.cmpFacts (r1 r2:Int) (u v:Value) (c:Int) (w:World) (hu:u.oneCell'=true) (hv:v.oneCell'=true)
  (h108:∀ o1 o2,Calls Tryz.prog 112 #[u,v] ((w.alloc o1).alloc o2).drew fun e w'=>e=.returned (.int .i64 c)∧w'=((w.alloc o1).alloc o2).drew) :
  Calls Tryz.prog 77 #[.agg #[.int .i64 r1,u],.agg #[.int .i64 r2,v]] w fun e w'=>e=.returned (.int .i64 (if Lib.compareInt r1 r2=0 then c else Lib.compareInt r1 r2))∧∃ q os',w'=grow (w.drewN q) os':=by
 have mixed:Tryz.prog.follows .mixedOrders=true:=by kernel_rfl
 have h116:∀ W,Calls Tryz.prog 133 #[.int .i64 r1,.int .i64 r2] W fun e w'=>e=.returned (.int .i64 (Lib.compareInt r1 r2))∧w'=W:=fun W=>Any.cmp_Compare_int Tryz.lays122 r1 r2 W
 obtain ⟨z,hz⟩:∃ z,z=if Lib.compareInt r1 r2=0 then c else Lib.compareInt r1 r2:=⟨_,rfl⟩
 have hor:∀ (b k:Nat) (W:World),W.cell? ⟨b,0,none⟩=some (.int .i64 (Lib.compareInt r1 r2))→W.cell? ⟨b,1,none⟩=some (.int .i64 c)→Calls Tryz.prog 132 #[.slice (some ⟨b,0,none⟩) 2 k] W fun e w'=>e=.returned (.int .i64 z)∧w'=W:=fun b k W h0 h1=>by rw [hz];exact Tryz.or2 b k _ _ W h0 h1
 rw [← hz]
 clear hz
 generalize Lib.compareInt r1 r2=r at *
 go_enter Tryz.func77,Tryz.ntmps77
 go_wp2
 have c0:((w.alloc (Obj.cells #[Value.int IntKind.i64 r1,u] 114)).alloc (Obj.cells #[Value.int IntKind.i64 r2,v] 114)).drew.cell? ⟨w.heap.size,0,none⟩=some (.int .i64 r1):=by go_simp
 have c1:((w.alloc (Obj.cells #[Value.int IntKind.i64 r1,u] 114)).alloc (Obj.cells #[Value.int IntKind.i64 r2,v] 114)).drew.cell? ⟨w.heap.size,1,none⟩=some u:=by go_simp
 have c2:((w.alloc (Obj.cells #[Value.int IntKind.i64 r1,u] 114)).alloc (Obj.cells #[Value.int IntKind.i64 r2,v] 114)).drew.cell? ⟨w.heap.size+1,0,none⟩=some (.int .i64 r2):=by go_simp
 have c3:((w.alloc (Obj.cells #[Value.int IntKind.i64 r1,u] 114)).alloc (Obj.cells #[Value.int IntKind.i64 r2,v] 114)).drew.cell? ⟨w.heap.size+1,1,none⟩=some v:=by go_simp
 have hg:∀ o,(((w.alloc (Obj.cells #[Value.int IntKind.i64 r1,u] 114)).alloc (Obj.cells #[Value.int IntKind.i64 r2,v] 114)).drew.alloc o)=grow (w.drewN 1) #[Obj.cells #[Value.int IntKind.i64 r1,u] 114,Obj.cells #[Value.int IntKind.i64 r2,v] 114,o]:=fun o=>by
  unfold World.alloc World.drew World.drewN grow
  simp only [World.mk.injEq,and_true,true_and]
  apply Array.ext'
  simp
 have h108:=h108 (Obj.cells #[Value.int IntKind.i64 r1,u] 114) (Obj.cells #[Value.int IntKind.i64 r2,v] 114)
 have HG:Aside _:=hg
 clear hg
 generalize hW:(w.alloc (Obj.cells #[Value.int IntKind.i64 r1,u] 114)).alloc (Obj.cells #[Value.int IntKind.i64 r2,v] 114)=W at *
 have HW:Hid _:=hW
 clear hW
 go_region_with_o (first
  | (go_at_call 133;refine (h116 _).mono ?_;rintro e w' ⟨rfl,rfl⟩)
  | (go_at_call 112;refine h108.mono ?_;rintro e w' ⟨rfl,rfl⟩)
  | (go_at_call 132;refine (hor _ _ _ (by go_simp) (by go_simp)).mono ?_;rintro e w' ⟨rfl,rfl⟩))
 all_goals (
  go_wp2
  go_ret
  exact ⟨rfl,1,_,HG.out _⟩)
end Go.Proofs
namespace Go.Proofs
open Go Ovi Go.RowKit Go.Shelf Go.Sort Go.Lib
theorem Tryz.cfa_nil (A:Option Addr) (cap:Nat) (w:World):Calls Tryz.prog 151 #[.slice A 0 cap,.func (.func 152) #[] #[]] w fun e w'=>e=.returned (.slice A 0 cap)∧w'=w:=by
 go_enter Tryz.func151,Tryz.ntmps151
 go_wp2
 go_ret
 exact ⟨rfl,rfl⟩
theorem Tryz.cmp108 {w:World} {S:Nat→Prop} {u v:Value} {xs ys:List Int} (hu:RI w S u xs) (hv:RI w S v ys) (hxl:xs.length≤1099511627776) (hyl:ys.length≤1099511627776):Calls Tryz.prog 112 #[u,v] w fun e w'=>e=.returned (.int .i64 (cmpL xs ys))∧w'=w:=by
 obtain ⟨A,c,hu,hc,hx⟩:=hu
 obtain ⟨A',c',hv,hc',hy⟩:=hv
 subst hu hv
 have fin:∀ {z z':Int},z=z'→∀ {vs:Array Value},(Calls Tryz.prog 112 vs w fun e w'=>e=.returned (.int .i64 z)∧w'=w)→Calls Tryz.prog 112 vs w fun e w'=>e=.returned (.int .i64 z')∧w'=w:=by
  intro z z' hz vs h
  subst hz
  exact h
 by_cases hx0:xs=[]
 ·subst hx0
  refine fin ?_ (Tryz.cmp_nil A A' c ys.length c' w)
  cases ys with
  | nil=>rfl
  | cons y ys=>rw [if_pos (by simp)];rfl
 ·obtain ⟨b,o,rfl,hx1⟩:=zdc hx0 hx
  by_cases hy0:ys=[]
  ·subst hy0
   cases xs with
   | nil=>exact absurd rfl hx0
   | cons x xs=>exact fin rfl (Tryz.cmp_one b o c _ c' A' x w (by simp) (by have:=hx1 0 x rfl;simpa using this))
  ·obtain ⟨b',o',rfl,hy1⟩:=zdc hy0 hy
   exact fin rfl (Tryz.cmp_both b o c b' o' c' xs ys w (by omega) (by omega) hx1 hy1)
theorem zgD (W:World) (o1 o2:Obj) {k:Nat} (h:k < W.heap.size):((W.alloc o1).alloc o2).drew.heap[k]? = W.heap[k]? := by
 show ((W.heap.push o1).push o2)[k]? = _
 rw [Array.getElem?_push,if_neg (by simp;omega),Array.getElem?_push,if_neg (by omega)]
theorem Tryz.cmp88 {w W:World} {S:Nat→Prop} (hS:∀ k,S k→k < w.heap.size) (hW:Stab S w W) (hsz:w.heap.size≤W.heap.size) (x y:HdA w S) :
  Calls Tryz.prog 77 #[.agg (encA x).toArray,.agg (encA y).toArray] W fun e w'=>e=.returned (.int .i64 (zeH x y))∧∃ q os',w'=grow (W.drewN q) os':=by
 have one:∀ x:HdA w S,x.v.oneCell'=true:=fun x=>zeL x _ (by simp [encA])
 have:=Tryz.cmpFacts x.r y.r x.v y.v (cmpL x.l y.l) W (one x) (one y) (fun o1 o2=>by
  have hst:Stab S w ((W.alloc o1).alloc o2).drew:=fun k hk=>by
   rw [zgD W o1 o2 (Nat.lt_of_lt_of_le (hS k hk) hsz)]
   exact hW k hk
  exact Tryz.cmp108 (x.h.stab hst) (y.h.stab hst) x.b y.b)
 refine this.mono fun e w' ⟨h1,h2⟩=>⟨?_,h2⟩
 rw [h1]
 congr 2
 unfold zeH Ovi.cmpA lstA Lib.compareInt
 by_cases c1:x.r < y.r
 ·simp [c1]
 ·by_cases c2:x.r > y.r
  ·simp [c1,c2]
  ·simp [c1,c2]
theorem zkL (W:World) (o1 o2:Obj) (q:Nat) (os:Array Obj):grow (((W.alloc o1).alloc o2).drewN q) os=grow (W.drewN q) (#[o1,o2]++os):=by
 unfold World.alloc World.drewN grow
 simp only [World.mk.injEq,and_true,true_and]
 apply Array.ext'
 simp
set_option maxHeartbeats 4000000 in
set_option maxRecDepth 1000000 in
theorem Tryz.same90 (r1 r2 c:Int) (u v:Value) (hu:u.oneCell'=true) (hv:v.oneCell'=true) (W:World)
  (h88:∀ o1 o2,Calls Tryz.prog 77 #[.agg #[.int .i64 r1,u],.agg #[.int .i64 r2,v]] ((W.alloc o1).alloc o2) fun e w'=>e=.returned (.int .i64 c)∧∃ q os',w'=grow (((W.alloc o1).alloc o2).drewN q) os') :
  Calls Tryz.prog 152 #[.agg #[.int .i64 r1,u],.agg #[.int .i64 r2,v]] W fun e w'=>e=.returned (.bool (decide (c=0)))∧∃ q os',w'=grow (W.drewN q) os':=by
 have h:=h88 (Obj.cells #[Value.int IntKind.i64 r1,u] 114) (Obj.cells #[Value.int IntKind.i64 r2,v] 114)
 have hg:=zkL W (Obj.cells #[Value.int IntKind.i64 r1,u] 114) (Obj.cells #[Value.int IntKind.i64 r2,v] 114)
 have HG:Aside _:=hg
 clear hg h88
 go_enter Tryz.func152,Tryz.ntmps152
 go_wp2_with (go_at_call 77;refine h.mono ?_;rintro e w' ⟨rfl,q,os',rfl⟩)
 go_ret
 refine ⟨?_,q,_,HG.out q os'⟩
 first | rfl | (congr 2)
theorem Tryz.eq90 {w W:World} {S:Nat→Prop} (hS:∀ k,S k→k < w.heap.size) (hW:Stab S w W) (hsz:w.heap.size≤W.heap.size) (x y:HdA w S) :
  Calls Tryz.prog 152 #[.agg (encA x).toArray,.agg (encA y).toArray] W fun e w'=>e=.returned (.bool (decide (lstA x=lstA y)))∧∃ q os',w'=grow (W.drewN q) os':=by
 have one:∀ x:HdA w S,x.v.oneCell'=true:=fun x=>zeL x _ (by simp [encA])
 refine (Tryz.same90 x.r y.r (zeH x y) x.v y.v (one x) (one y) W (fun o1 o2=>by
  have hst:Stab S w ((W.alloc o1).alloc o2):=fun k hk=>by
   have:=zgD W o1 o2 (Nat.lt_of_lt_of_le (hS k hk) hsz)
   exact this.trans (hW k hk)
  exact Tryz.cmp88 hS hst (by show w.heap.size≤((W.heap.push o1).push o2).size;rw [Array.size_push,Array.size_push];omega) x y)).mono fun e w' ⟨h1,h2⟩=>⟨?_,h2⟩
 rw [h1]
 congr 2
 rw [Bool.eq_iff_iff,decide_eq_true_eq,decide_eq_true_eq]
 unfold zeH
 constructor
 ·intro h
  refine zjw _ _ ?_ ?_
  ·unfold ltA;rw [h];rfl
  ·unfold ltA
   have:cmpA (lstA x) (lstA y)=0:=h
   rw [decide_eq_false_iff_not]
   intro h'
   have h2:ltA (lstA y) (lstA x)=true:=decide_eq_true h'
   rw [ziC] at h2
   have h3:ltA (lstA x) (lstA y)=false:=by unfold ltA;rw [h];rfl
   revert this
   unfold cmpA
   rcases h2 with h2 | ⟨h2,h2'⟩
   ·rw [if_neg (by omega),if_pos (by omega)];omega
   ·rw [if_neg (by omega),if_neg (by omega)]
    intro h4
    have key:∀ a b:List Int,cmpL a b=0→a=b:=by
     intro a
     induction a with
     | nil=>intro b hb;cases b with
      | nil=>rfl
      | cons y ys=>simp [cmpL] at hb
     | cons z zs ih =>
      intro b hb
      cases b with
      | nil=>simp [cmpL] at hb
      | cons y ys =>
       unfold cmpL at hb
       by_cases c1:z < y
       ·rw [if_pos c1] at hb;omega
       ·rw [if_neg c1] at hb
        by_cases c2:z > y
        ·rw [if_pos c2] at hb;omega
        ·rw [if_neg c2] at hb
         rw [ih ys hb,show z=y by omega]
    rw [key _ _ h4] at h2'
    exact List.lt_irrefl _ h2'
 ·intro h
  rw [h]
  have h1:=swoA.irrefl (lstA y)
  unfold Ovi.cmpA
  rw [if_neg (by omega),if_neg (by omega)]
  have key:∀ a:List Int,cmpL a a=0:=by
   intro a
   induction a with
   | nil=>rfl
   | cons z zs ih=>unfold cmpL;rw [if_neg (by omega),if_neg (by omega)];exact ih
  exact key _
end Go.Proofs
namespace Go.Proofs
open Go Ovi Go.RowKit Go.Shelf
theorem Tryz.cf_nil (A:Option Addr) (w:World):Calls Tryz.prog 113 #[.slice A 0 0,.func (.func 114) #[] #[]] w fun e w'=>e=.returned (.slice A 0 0)∧w'=w:=by
 go_enter Tryz.func113,Tryz.ntmps113
 go_wp2
 go_ret
 exact ⟨rfl,rfl⟩
theorem Tryz.rs_nil (h:∀ (A:Option Addr) (w:World),Calls Tryz.prog 111 #[.slice A 0 0,.func (.func 112) #[] #[]] w fun e w'=>e=.returned (.tuple #[])∧Below w.heap.size w w') (A:Option Addr) (w:World):Calls Tryz.prog 62 #[.slice A 0 0] w fun e w'=>e=.returned (.slice A 0 0)∧Below w.heap.size w w':=by
 have h1:=h A w
 have h2:=Tryz.cf_nil A
 clear h
 go_enter Tryz.func62,Tryz.ntmps62
 go_wp2_with (go_at_call 111;refine h1.mono ?_;rintro e w1 ⟨rfl,hb⟩)
 have H:Hid (Below w.heap.size w w1):=hb
 clear hb h1
 refine (h2 w1).mono ?_
 rintro e w2 ⟨rfl,rfl⟩
 go_wp2
 go_ret
 exact ⟨rfl,H.out⟩
end Go.Proofs
namespace Go.Proofs.YtiacahdabflcdaaGreat.Q
open Go Ovi Go.RowKit Go.Proofs
theorem znf:zaQ Tryz.prog hs (fun _=>none) 8 176 [.d (.list 1 [])]=some []:=by kernel_rfl
theorem sortC:SortC Tryz.prog 176 where
 known:=⟨Tryz.f176,Tryz.func176,rfl,by kernel_rfl⟩
 run:=fun blk off cap zs w hH hb hl=>Any.slices_Sort_int Tryz.lays189 blk off cap zs w hH hb hl
 nil:=fun A w=>by
  refine ((bare 8).plain 176 _ _ znf w (fun _=>False) (fun _=>False) #[.slice A 0 0] (fun _ h=>h.elim) (fun _ h=>h.elim) ⟨rfl,fun j a ha=>?_⟩ trivial).mono fun e w' ⟨v,S',mr,he,hb,_,_,hr,_⟩=>?_
  ·cases j with
   | zero=>cases ha;exact ⟨_,rfl,RD.nil A 1⟩
   | succ j=>simp at ha
  ·obtain ⟨⟨vs,h1,h2,_⟩,_⟩:=hr
   obtain rfl:=List.eq_nil_of_length_eq_zero h2
   exact ⟨by rw [he,h1],hb⟩
theorem compactC:CompactC Tryz.prog 177 where
 known:=⟨Tryz.f177,Tryz.func177,rfl,by kernel_rfl⟩
 run:=fun blk off cap zs w hH hb hl=>Any.slices_Compact_int Tryz.laysNm220 blk off cap zs w hH hb hl
 nil:=fun A cap w=>Any.slices_Compact_int_empty Tryz.laysNm220 A cap w
theorem cloneC:CloneC Tryz.prog 87 3 where
 known:=⟨Tryz.f87,Tryz.func87,rfl,by kernel_rfl⟩
 run:=fun b off n c zs w hz hb hc=>Any.slices_Clone_int Tryz.laysNm215 b off n c zs w hz hb hc
 nil:=fun n c w=>Any.slices_Clone_int_nil Tryz.laysNm215 n c w
 zero:=fun a c w=>Any.slices_Clone_int_zero Tryz.laysNm215 a c w
theorem zgw:(Tryz.prog.info? 112).isSome=true:=by kernel_rfl
theorem cloneZC:CloneZC Tryz.prog 82 112 3 where
 base:={
  known:=⟨Tryz.f82,Tryz.func82,rfl,by kernel_rfl⟩
  pos:=by decide
  run:=fun b off n c news w hl hn hc h1=>by
   have hmax:(1099511627776:Nat)≤maxLen:=by decide
   exact (AnyE.slices_Clone Tryz.laysSlE041_f166 ((Tryz.prog.info? 112).get zgw) (.agg #[.string ⟨#[]⟩,.int .i64 0,.bool false]) 3 32 (Option.some_get zgw).symm (by kernel_rfl) (by kernel_rfl) (by kernel_rfl) rfl (by decide) Tryz.sizeOf112 b off n c news w hl (by omega) (by omega) hc h1).mono fun ex w' ⟨v',q1,q2,_,q3⟩=>⟨v',q1,q2,q3⟩}
 nil:=fun n c w=>AnyE.slices_Clone_nil Tryz.laysSlE041_f166 n c w
 zero:=fun a c w=>zkJ Tryz.laysSlE041_f166 ((Tryz.prog.info? 112).get zgw) (.agg #[.string ⟨#[]⟩,.int .i64 0,.bool false]) 3 32 (Option.some_get zgw).symm (by kernel_rfl) (by kernel_rfl) (by kernel_rfl) rfl (by decide) Tryz.sizeOf112 a c w
theorem ht (w:World) (k:Int) (h0:0≤k) (h1:k≤4611686018427387904):Calls Tryz.prog 97 #[.int .i64 k] w fun e w'=>e=.returned (.string ⟨(mt k).toArray⟩)∧Below w.heap.size w w':=by
 have he:C0 3000 97 [.d (.int .i64 k)]=some [(false,[.d (.str (mt k))])]:=(show C0 (2999+1) 97 [.d (.int .i64 k)]=zcI P hs (C0 2999) 97 2999 Tryz.f97 [.d (.int .i64 k)] by kernel_rfl).trans (e103 2999 (C0 2999) k h0 h1 (by omega))
 refine ((bare 3000).plain 97 _ _ he w (fun _=>False) (fun _=>False) #[.int .i64 k] (fun _ h=>h.elim) (fun _ h=>h.elim) ⟨rfl,fun j a ha=>?_⟩ trivial).mono fun e w' ⟨v,S',mr,he,hb,_,_,hr,_⟩=>?_
 ·cases j with
  | zero=>cases ha;exact ⟨_,rfl,RD.int .i64 k⟩
  | succ j=>simp at ha
 ·obtain ⟨⟨us,h1,h2,h3⟩,_⟩:=hr
  obtain ⟨u,hu,hone⟩:=h3 0 _ rfl
  simp only [List.length_cons,List.length_nil] at h2
  obtain ⟨u',rfl⟩:=List.length_eq_one_iff.1 h2
  simp only [List.getElem?_cons_zero,Option.some.injEq] at hu
  subst hu
  obtain ⟨l,hl,hrl⟩:=hone
  cases hl
  have hrl:RD w' S' (fun _=>False) u' (.str (mt k)):=hrl
  refine ⟨?_,hb⟩
  rw [he,h1]
  generalize hX:mt k=X at hrl ⊢
  generalize hY:D.str X=Y at hrl
  cases hrl with
  | str b =>
   cases hY
   simp
  | _=>cases hY
theorem zoX:PrimOk Tryz.prog noG 17 (za3 true (mkAg (zbo mt))):=zeU ⟨Tryz.f17,Tryz.func17,rfl,by kernel_rfl⟩ (AggC.cells (Tryz.mInstance ht) zm0)
theorem zmG:zaQ Tryz.prog hs (fun _=>none) 8 150 [.d (.list 2 []),.d (.fn 77 [])]=some []:=by kernel_rfl
theorem zo7 (A:Option Addr) (w:World):Calls Tryz.prog 150 #[.slice A 0 0,.func (.func 77) #[] #[]] w fun e w'=>e=.returned (.tuple #[])∧Below w.heap.size w w':=by
 refine ((bare 8).plain 150 _ _ zmG w (fun _=>False) (fun _=>False) #[.slice A 0 0,.func (.func 77) #[] #[]] (fun _ h=>h.elim) (fun _ h=>h.elim) ⟨rfl,fun j a ha=>?_⟩ trivial).mono fun e w' ⟨v,S',mr,he,hb,_,_,hr,_⟩=>?_
 ·match j,ha with
  | 0,ha=>cases ha;exact ⟨_,rfl,RD.nil A 2⟩
  | 1,ha=>cases ha;exact ⟨_,rfl,RD.fn 77 #[] [] (fun _ _=>undef) rfl (fun j xs h=>by simp at h) (fun j c x h=>by simp [zk] at h)⟩
  | j+2,ha=>simp at ha
 ·obtain ⟨⟨vs,h1,h2,_⟩,_⟩:=hr
  obtain rfl:=List.eq_nil_of_length_eq_zero h2
  exact ⟨by rw [he,h1],hb⟩
theorem znE {w:World} {S:Nat→Prop} {blk m:Nat} {dk:Array (HdA w S)} {os:Array Obj}:w.heap.size≤(Go.Proofs.sortWorldK encA 2 w blk 0 m dk os).heap.size:=size_sortWorldK_c encA 2 w blk 0 m dk os
theorem sortAC:SortAC Tryz.prog 150 77 where
 known:=⟨Tryz.f150,Tryz.func150,rfl,by kernel_rfl⟩
 run:=fun w S blk cap d hS hn hH hb hsz=>AnyQ.slices_SortFunc Tryz.laysSlF06_f168 2 Tryz.isAgg114 Tryz.sizeOf114 encA zj6 zeL zeH zp5 77 #[] blk 0 cap d w (enters_of Tryz.func77 (by kernel_rfl) rfl)
  (fun m os dk hs x y=>Tryz.cmp88 hS (zbK (enc:=id) (Go.Sort.flatK encA 2 dk) hS hn) znE x y) hH hb hsz
 nil:=fun A w=>zo7 A w
theorem compAI:CompAI Tryz.prog 151 152 where
 known:=⟨Tryz.f151,Tryz.func151,rfl,by kernel_rfl⟩
 run:=fun w S blk cap d hS hn hH hb hsz hcap=>by
  have hix:(ixs d).map (decX (zcP w S) d)=d:=ziB _ _
  have hH':Go.Sort.HoldsK (fun x=>encA (decX (zcP w S) d x)) 2 w blk 0 (ixs d):=by
   unfold Go.Sort.HoldsK at hH ⊢
   rw [ziV,hix]
   exact hH
  have hc:=Tryz.compactFacts (fun x=>encA (decX (zcP w S) d x)) (fun x=>lstA (decX (zcP w S) d x)) none rfl 152 blk 0 cap (ixs d) w ⟨fun x=>zj6 _,fun x=>zeL _,hH',hb⟩ (enters_of Tryz.func152 (by kernel_rfl) rfl)
   (fun m os dk hs x y=>by
    rw [zeu]
    exact Tryz.eq90 hS (zbK (enc:=id) (Go.Sort.flatK encA 2 (dk.map (decX (zcP w S) d))) hS hn) znE (decX (zcP w S) d x) (decX (zcP w S) d y)) (by rw [zbn];exact hsz) (by rw [zbn];exact hcap)
  rw [zbn] at hc
  refine hc.mono fun e w' ⟨dk,kk,h1,h2,⟨n,os,h3⟩,h4,h5⟩=>⟨dk.map (decX (zcP w S) d),kk,n,os,h1,by rw [Array.size_map,h2,zbn],by rw [h3,zeu],by rw [zbn] at h4;exact h4,?_,fun h hh=>?_⟩
  ·rw [← zj5,h5,zkZ]
  ·rcases zk0 (zcP w S) d dk h hh with hm | rfl
   ·exact .inl hm
   ·exact .inr rfl
 nil:=fun A cap w=>Tryz.cfa_nil A cap w
theorem zmH:zaQ Tryz.prog hs (fun _=>none) 8 111 [.d (.list 1 []),.d (.fn 112 [])]=some []:=by kernel_rfl
theorem cmpC:CmpC Tryz.prog 112:=by
 intro w S u v xs ys ⟨A,c,hu,hc,hx⟩ ⟨A',c',hv,hc',hy⟩ hxl hyl
 subst hu hv
 have fin:∀ {z z':Int},z=z'→∀ {vs:Array Value},(Calls Tryz.prog 112 vs w fun e w'=>e=.returned (.int .i64 z)∧w'=w)→Calls Tryz.prog 112 vs w fun e w'=>e=.returned (.int .i64 z')∧∃ q os,w'=Go.Sort.grow (w.drewN q) os:=by
  intro z z' hz vs h
  subst hz
  exact h.mono fun e w' ⟨h1,h2⟩=>⟨h1,0,#[],by rw [h2,Go.Sort.grow_empty];rfl⟩
 by_cases hx0:xs=[]
 ·subst hx0
  refine fin ?_ (Tryz.cmp_nil A A' c ys.length c' w)
  cases ys with
  | nil=>rfl
  | cons y ys=>rw [if_pos (by simp)];rfl
 ·obtain ⟨b,o,rfl,hx1⟩:=zdc hx0 hx
  by_cases hy0:ys=[]
  ·subst hy0
   cases xs with
   | nil=>exact absurd rfl hx0
   | cons x xs=>exact fin rfl (Tryz.cmp_one b o c _ c' A' x w (by simp) (by have:=hx1 0 x rfl;simpa using this))
  ·obtain ⟨b',o',rfl,hy1⟩:=zdc hy0 hy
   exact fin rfl (Tryz.cmp_both b o c b' o' c' xs ys w (by omega) (by omega) hx1 hy1)
theorem zoa (A:Option Addr) (w:World):Calls Tryz.prog 111 #[.slice A 0 0,.func (.func 112) #[] #[]] w fun e w'=>e=.returned (.tuple #[])∧Below w.heap.size w w':=by
 refine ((bare 8).plain 111 _ _ zmH w (fun _=>False) (fun _=>False) #[.slice A 0 0,.func (.func 112) #[] #[]] (fun _ h=>h.elim) (fun _ h=>h.elim) ⟨rfl,fun j a ha=>?_⟩ trivial).mono fun e w' ⟨v,S',mr,he,hb,_,_,hr,_⟩=>?_
 ·match j,ha with
  | 0,ha=>cases ha;exact ⟨_,rfl,RD.nil A 1⟩
  | 1,ha=>cases ha;exact ⟨_,rfl,RD.fn 112 #[] [] (fun _ _=>undef) rfl (fun j xs h=>by simp at h) (fun j c x h=>by simp [zk] at h)⟩
  | j+2,ha=>simp at ha
 ·obtain ⟨⟨vs,h1,h2,_⟩,_⟩:=hr
  obtain rfl:=List.eq_nil_of_length_eq_zero h2
  exact ⟨by rw [he,h1],hb⟩
theorem rsI:RsI Tryz.prog 62 where
 known:=⟨Tryz.f62,Tryz.func62,rfl,by kernel_rfl⟩
 run:=fun w S blk cap d hS hn hH hb hsz hcap=>Tryz.rowsSet (fun w S blk cap d hS hn hH hb hsz=>zmI Tryz.laysSlF6_f234 (enters_of Tryz.func112 (by kernel_rfl) rfl) cmpC w S blk cap d hS hn hH hb hsz) w S blk cap d hS hn hH hb hsz hcap
 nil:=fun A w=>Tryz.rs_nil zoa A w
theorem repC:RepC Tryz.prog 210 3 where
 known:=⟨Tryz.f210,Tryz.func210,rfl,by kernel_rfl⟩
 run:=fun b o c w hx hb=>Tryz.repeat_walk b o c w hx hb
theorem zoY:PrimOk Tryz.prog noG 31 (za3 false (mkLs 1 (zR zaM))):=zeU ⟨Tryz.f31,Tryz.func31,rfl,by kernel_rfl⟩ (ListC.cells Tryz.mIntSS fun xs k xs' k' h=>zcv h)
theorem zoZ:PrimOk Tryz.prog noG 18 (za3 false (mkLs 5 (zR za8))):=zeU ⟨Tryz.f18,Tryz.func18,rfl,by kernel_rfl⟩ (ListC.cells Tryz.mDepS fun xs k xs' k' h=>zcv h)
theorem zpW:PrimOk Tryz.prog noG 30 (za3 false (mkLs 2 (zR zaB))):=zeU ⟨Tryz.f30,Tryz.func30,rfl,by kernel_rfl⟩ (ListC.cells Tryz.mQueryS fun xs k xs' k' h=>zcv h)
def hs0:Hints:={ sig:=fun f=>match f with | 11=>[(false,[.own 3 1])] | f=>sg f,loops:=fun f l=>match f,l with | 11,3=>[(0,.same),(3,.own 3 1),(4,.same)] | f,l=>lp f l,joins:=jn }
noncomputable def C1 (k:Nat):zh:=zaQ P hs0 (fun _=>none) k
noncomputable def N11 (k:Nat) (call:zh) (n:Nat) (v0:Ovi.Rows) (v1:Int) (v2:Ovi.Rows):Option Res:=zp P hs0 call 11 k Tryz.f11 [1,1,0,1,0] [] n [(0,.d (.list 1 v0)),(3,AV.own 100003 0),(4,.d (.int .i64 v1))] [(100003,Blk.arr 3 1 0 v2 (0,0,0))]
theorem N11.succ (k:Nat) (call:zh) (n:Nat) (v0:Ovi.Rows) (v1:Int) (v2:Ovi.Rows):N11 k call (n+1) v0 v1 v2=ite' (decide (v1 < ((List.length v0):Int))) (ite' (inR v1 (List.length v0)) (zg (zm .i64 v0 v1.toNat 0) fun n7=>ite' (inR v1 (List.length v2)) (N11 k call n v0 (IntKind.i64.wrap (v1+1)) (rowsSet v2 v1.toNat 0 [D.int .i64 n7])) none) none) (some ([(false,[.row 3 1 v2])])):=by kernel_rfl
theorem N11.run (k:Nat) (a0:Ovi.Rows):C1 (k+1) 11 [.d (.list 1 a0)]=ite' (((List.length a0):Int)==((List.length a0):Int)) (ite' (inM ((List.length a0):Int)) (N11 k (C1 k) k a0 0 (za0 ((List.length a0):Int) [D.int .i64 0])) none) none:=(show C1 (k+1) 11 [.d (.list 1 a0)]=zcI P hs0 (C1 k) 11 k Tryz.f11 [.d (.list 1 a0)] by kernel_rfl).trans (by kernel_rfl)
theorem lN11 {k:Nat} (hk:2000000≤k) {a:Ovi.Rows} (ha:Fit (.list [.int .i64]) (.list 1 a)) (hs:szR a≤1048576):∀ (m i n:Nat) (v:Ovi.Rows),Filled a v i 1→i+m=a.length→m < n→N11 k (C1 k) n a (i:Int) v=some [(false,[.row 3 1 a])]:=by
 have hlen:=ha.len
 intro m;induction m with
 | zero =>
  intro i n v hv hm hn
  obtain ⟨n,rfl⟩:∃ j,n=j+1:=⟨n - 1,by omega⟩
  obtain rfl:i=a.length:=by omega
  rw [N11.succ,ite'_f (lt_f (by omega)),hv.done]
 | succ m ih =>
  intro i n v hv hm hn
  obtain ⟨n,rfl⟩:∃ j,n=j+1:=⟨n - 1,by omega⟩
  obtain ⟨row,hr,hfr,hdr⟩:=ha.row (i:=i) (by omega)
  obtain ⟨d0,rr0,rfl,hd0,hfr0⟩:=Fits.cons hfr
  obtain ⟨x0,rfl,wx0⟩:=hd0.int
  obtain rfl:=Fits.nil hfr0
  have hst:=hv.step hr rfl
  have hvl:=hv.1
  have hszr:=za2 hr
  rw [N11.succ,ite'_t (lt_t (by omega)),ite'_t (zn (by omega))]
  simp only [Int.toNat_natCast,zG hr,zai hr,zaj hr,zV hr]
  simp only [List.getElem?_cons_zero,List.getElem?_cons_succ,Option.bind_some,zy,zO,zP,zJ,zd,zt,zB,zf,zi,zw,zH,zL,zu,zI,bne_self_eq_false,beq_self_eq_true,Bool.not_true]
  rw [ite'_t (zn (by omega)),zaf (m:=a.length) (by omega) (by omega) hlen]
  rw [show ((i:Int)+1)=((i+1:Nat):Int) by omega]
  exact ih (i+1) n _ hst (by omega) (by omega)
theorem cN11 {k:Nat} (hk:2000001≤k) {a:Ovi.Rows} (ha:Fit (.list [.int .i64]) (.list 1 a)) (hs:szD (.list 1 a)≤1048576):C1 k 11 [.d (.list 1 a)]=some [(false,[.row 3 1 a])]:=by
 obtain ⟨k,rfl⟩:∃ j,k=j+1:=⟨k - 1,by omega⟩
 simp only [szD] at hs
 rw [N11.run,ite'_t (zge _),ite'_t (zgk (by omega))]
 exact lN11 (k:=k) (by omega) ha (by omega) a.length 0 k _ (Filled.start a _) (by omega) (by omega)
theorem fitI {zs:List Int} (hl:zs.length≤1048576) (hz:∀ z∈zs,inI z):Fit (.list [.int .i64]) (.list 1 (I1 zs)):=by
 have hmax:(1048576:Nat)≤maxLen:=by decide
 have wf:∀ z,inI z→(Lit.int IntKind.i64 z).wf=true:=fun z hz=>by
  unfold inI at hz
  simp only [Lit.wf,IntKind.min,IntKind.max,IntKind.signed,IntKind.bits,Bool.and_eq_true,decide_eq_true_eq]
  simpa using hz
 simp only [Fit]
 refine ⟨rfl,by rw [zl];omega,fun r hr=>?_⟩
 obtain ⟨z,hm,rfl⟩:=List.mem_map.1 hr
 simp only [Fits,Fit]
 exact ⟨⟨trivial,wf _ (hz z hm)⟩,trivial⟩
theorem toIC:ToIC Tryz.prog 11 where
 known:=⟨Tryz.f11,Tryz.func11,rfl,by kernel_rfl⟩
 run:=fun zs hl hz=>(zfF (zdP mixed) (zhW ok) (zid _ _) 2000010).plain 11 _ _ (show zaQ P hs0 (fun _=>none) 2000010 11 [.d (.list 1 (I1 zs))]=_ from cN11 (k:=2000010) (by omega) (fitI hl hz) (by simp only [szD,zl,zij];omega))
theorem zp3 (k:Nat):Sound Tryz.prog noG (C k):=zfF (zdP mixed) (zhW ok) (zkQ (by
 intro x hx
 simp only [List.mem_cons,List.not_mem_nil,or_false] at hx
 rcases hx with rfl | rfl | rfl | rfl | rfl | rfl | rfl | rfl | rfl | rfl | rfl | rfl | rfl | rfl
 ·exact sortC.ok
 ·exact compactC.ok
 ·exact cloneC.ok
 ·exact cloneZC.ok
 ·exact sortAC.okG
 ·exact compAI.ok
 ·exact repC.ok
 ·exact rsI.ok
 ·exact zmV
 ·exact zoX
 ·exact zoZ
 ·exact zpW
 ·exact zoY
 ·exact toIC.ok)) k
end Go.Proofs.YtiacahdabflcdaaGreat.Q
namespace Go.Proofs.YtiacahdabflcdaaGreat.Q
open Go Ovi Go.ChangeShapes Go.WideShapes Go.ChangeAt Go.RowKit
theorem own:ownKnob Tryz.prog.godebug=none:=by kernel_rfl
theorem znZ:laidOutB Tryz.prog=true:=by kernel_rfl
def ty5:List (Bool × List Ty):=[(true,[.list [.str,.int .i64,.bool],.list [.int .i64,.list [.int .i64]]]),(false,[.list [.list [.int .i64,.list [.int .i64]],.list [.int .i64,.list [.int .i64]],.bool,.int .i64,.int .i64]]),(false,[.list [.list [.int .i64],.list [.int .i64,.list [.int .i64]]]])]
theorem tys5:zhY Tryz.prog Tryz.f5.params.toList=some ty5:=by kernel_rfl
theorem zmw:ze2 Tryz.prog Tryz.f5.params.toList=true:=by kernel_rfl
theorem zmn {av:List AV} (h:zf8 ty5 av):zbX P hs (C 1000000000000) (5:FuncId) rs48 1000000000000 Tryz.f5 (av.map zh6)=some yes:=by
 match av,h with
 | [p0,p1,p2],h =>
  simp only [ty5,zf8,and_true] at h
  obtain ⟨g0,g1,g2⟩:=h
  cases p0<;>simp only [zd7] at g0
  obtain ⟨ds0,rfl,g0⟩:=g0
  obtain ⟨_,_,rfl,e0_0,g0⟩:=Fits.cons g0
  obtain ⟨_,_,rfl,e0_1,g0⟩:=Fits.cons g0
  obtain rfl:=Fits.nil g0
  obtain ⟨_,rfl,e0_0⟩:=e0_0.list (n:=3) rfl
  obtain ⟨_,rfl,e0_1⟩:=e0_1.list (n:=2) rfl
  cases p1<;>simp only [zd7] at g1
  obtain ⟨_,rfl,g1⟩:=g1.list (n:=5) rfl
  cases p2<;>simp only [zd7] at g2
  obtain ⟨_,rfl,g2⟩:=g2.list (n:=2) rfl
  refine Eq.trans ?_ (show bo true=some yes from rfl)
  simpa only [asD,List.map_cons,List.map_nil,zh6,zdX] using zpR (Nat.le_refl _) e0_0 e0_1 g1 g2
set_option maxRecDepth 100000 in
theorem zn1 (os:Os) (started:os.Started) (H:Type) (enc:TypeId × Value→H) :
  ReturnsInHanded {} Tryz.checked os 5 .any (Rows.fnExactCertainUnionAnswersSpec.pre6 enc Tryz.prog Tryz.f5 Rows.fnExactCertainUnionAnswersRow.domain false) (Rows.fnExactCertainUnionAnswersSpec.post enc Tryz.prog Tryz.f5 false true false false):=by
 refine returnsInHanded_of_change (C:=Tryz.checked) own started (by kernel_rfl) Tryz.func5
  (ChangeSpec.witness6 (enc:=enc) (C:=Tryz.checked) false ⟨#[],#[.agg #[.slice none 0 0,.slice none 0 0],.slice none 0 0,.slice none 0 0],[]⟩ 8 (by kernel_rfl) (by kernel_rfl) (by kernel_rfl) (by kernel_rfl)) ?_
 intro W base args ds gs before hval0 hW hcnd _
 have hval:∀ (j:Nat) t v,Tryz.f5.params[j]? = some t→args[j]? = some v→Value.okWide Tryz.prog W .any base t v:=hval0
 have hW':=hW
 obtain ⟨p,q,hA0,hV,rfl,hfz,hnd⟩:=hW
 have hA:DataW.TrodAll enc Tryz.prog W 0 (fun _=>true) true Tryz.f5.params.toList args.toList ds p:=hA0
 obtain ⟨rfl,rfl⟩:=trodVars_none hV
 obtain ⟨av,hfit,hlen,hac⟩:=zkV hA (base:=base) (fun j t v h1 h2=>hval j t v (by simpa using h1) (by simpa using h2)) tys5
 refine (zlw (zdP mixed) (zhW ok) (zp3 1000000000000) (rs:=rs48) (k:=1000000000000) Tryz.func5 (by kernel_rfl) (zmn hfit) (vs:=args) ⟨by simpa using hlen,fun j a ha=>by
  rw [List.getElem?_map] at ha
  obtain ⟨b,hb,rfl⟩:=Option.map_eq_some_iff.1 ha
  obtain ⟨u,hu,hc⟩:=hac j b hb
  exact ⟨u,by simpa using hu,znJ hc⟩⟩ trivial).mono fun e W' ⟨he,bel⟩=>?_
 subst he
 have hk:=zkh znZ bel zmw hA
 obtain ⟨d0,d1,d2,rfl⟩:∃ d0 d1 d2,ds=[d0,d1,d2]:=by
  obtain ⟨v0,vs0,d0,ds0,p0,q0,rg0,rfl,rfl,h0,r0⟩:=trodAll_cons hA
  obtain ⟨v1,vs1,d1,ds1,p1,q1,rg1,rfl,rfl,h1,r1⟩:=trodAll_cons r0
  obtain ⟨v2,vs2,d2,ds2,p2,q2,rg2,rfl,rfl,h2,r2⟩:=trodAll_cons r1
  obtain ⟨rfl,rfl,rfl⟩:=trodAll_nil r2
  exact ⟨_,_,_,rfl⟩
 exact ⟨_,rfl,_,_,_,[],_,[],hW',trodAll_mk1 (shut_bool (show Tryz.prog.underlying 4=some .bool by kernel_rfl) _),hk,rfl,bel.frame _,fun h=>by cases h⟩
theorem andI {a b:Bool} (h1:a=true) (h2:b=true):(a&&b)=true:=by rw [h1,h2];rfl
theorem zpG:(Rows.fnExactCertainUnionAnswersRow.wf (OpenSpec.ofChange Rows.fnExactCertainUnionAnswersSpec))=true:=by kernel_rfl
theorem zpH:(laidOutB Tryz.prog)=true:=by kernel_rfl
theorem zpI:(mapsRowed Tryz.prog)=true:=by kernel_rfl
theorem zpJ:(Tryz.f5.params.all (Tryz.prog.readableRec ·))=true:=by kernel_rfl
theorem zpK:(namedTie Tryz.prog Rows.fnExactCertainUnionAnswersRow.named Rows.fnExactCertainUnionAnswersSpec.vars)=true:=by kernel_rfl
theorem zpL:((Rows.fnExactCertainUnionAnswersRow.stops==[]))=true:=by kernel_rfl
theorem zpM:((Tryz.prog.stops==[]))=true:=by kernel_rfl
theorem zpN:((Rows.fnExactCertainUnionAnswersRow.knobs==[]))=true:=by kernel_rfl
theorem zpO:((Tryz.prog.stopKnobs==[]))=true:=by kernel_rfl
theorem zpP:((Rows.fnExactCertainUnionAnswersRow.inPlace==Tryz.prog.inPlace 5))=true:=by kernel_rfl
theorem zoA:((Rows.fnExactCertainUnionAnswersRow.unfollowed==Tryz.prog.unfollowed 5))=true:=by kernel_rfl
theorem zoB:((Rows.fnExactCertainUnionAnswersRow.recurses==Tryz.prog.recurses 5))=true:=by kernel_rfl
theorem zoC:((Rows.fnExactCertainUnionAnswersRow.named==Tryz.prog.varsNamed 5))=true:=by kernel_rfl
theorem zoD:((Rows.fnExactCertainUnionAnswersRow.maps==(Tryz.f5.params.toList++Rows.fnExactCertainUnionAnswersSpec.plain.varTypes Tryz.prog).any (Tryz.prog.mapsRec ·)))=true:=by kernel_rfl
theorem zoE:((Rows.fnExactCertainUnionAnswersRow.ifaces==(Tryz.f5.params.toList++Rows.fnExactCertainUnionAnswersSpec.plain.varTypes Tryz.prog).any (Tryz.prog.ifacesRec ·)))=true:=by kernel_rfl
theorem zoF:((Rows.fnExactCertainUnionAnswersRow.mapsOut==Tryz.prog.mapsAmong Tryz.f5.resultTypes.toList))=true:=by kernel_rfl
theorem zoG:((Rows.fnExactCertainUnionAnswersRow.loops==(Tryz.f5.params.toList++Rows.fnExactCertainUnionAnswersSpec.plain.varTypes Tryz.prog).any (Tryz.prog.loopsFrom ·)))=true:=by kernel_rfl
theorem zoH:((Rows.fnExactCertainUnionAnswersRow.wideKeys==(Tryz.f5.params.toList++Rows.fnExactCertainUnionAnswersSpec.plain.varTypes Tryz.prog++Tryz.f5.resultTypes.toList).any (Tryz.prog.wideKeysFrom ·)))=true:=by kernel_rfl
theorem zoI:(Rows.fnExactCertainUnionAnswersSpec.vars.all (Tryz.prog.varReadable ·))=true:=by kernel_rfl
theorem zoJ:(Tryz.f5.resultTypes.all (fun t=>Tryz.prog.readableRec t&&decide (t < Tryz.prog.types.size)))=true:=by kernel_rfl
theorem zoK:((Rows.fnExactCertainUnionAnswersRow.ifacesOut==Tryz.f5.resultTypes.toList.any (Tryz.prog.ifacesRec ·)))=true:=by kernel_rfl
theorem zoL:((Rows.fnExactCertainUnionAnswersRow.loopsOut==Tryz.f5.resultTypes.toList.any (Tryz.prog.loopsFrom ·)))=true:=by kernel_rfl
theorem zoM:((Rows.fnExactCertainUnionAnswersRow.plainKeys==Tryz.prog.plainKeys))=true:=by kernel_rfl
theorem zoN:(Rows.fnExactCertainUnionAnswersRow.shortTexts.isNone)=true:=by kernel_rfl
theorem zoO:(Tryz.prog.stopsHeard)=true:=by kernel_rfl
theorem zoP:(Tryz.prog.mayEnter)=true:=by kernel_rfl
theorem zoQ:((Rows.fnExactCertainUnionAnswersRow.lifted==Tryz.prog.liftsFinal))=true:=by kernel_rfl
theorem zoR:((Tryz.prog.make==some Rows.fnExactCertainUnionAnswersRow.make))=true:=by kernel_rfl
theorem zoS:((Rows.fnExactCertainUnionAnswersRow.pinned==Rows.fnExactCertainUnionAnswersRow.pinnedBy))=true:=by kernel_rfl
theorem zoT:((Rows.fnExactCertainUnionAnswersRow.veiled==(Tryz.f5.params.toList++Rows.fnExactCertainUnionAnswersSpec.plain.varTypes Tryz.prog++Tryz.f5.resultTypes.toList).any (Tryz.prog.veiledRec ·)))=true:=by kernel_rfl
theorem zoU:(Rows.fnExactCertainUnionAnswersRow.veiledFits Tryz.prog Tryz.f5.params.toList (Tryz.f5.params.toList++Rows.fnExactCertainUnionAnswersSpec.plain.varTypes Tryz.prog++Tryz.f5.resultTypes.toList))=true:=by kernel_rfl
theorem znT:joinedFacts Tryz.prog 5 Tryz.f5 Rows.fnExactCertainUnionAnswersSpec Rows.fnExactCertainUnionAnswersRow=true:=by
 unfold joinedFacts
 refine (andI (andI (andI (andI (andI (andI (andI (andI (andI (andI (andI (andI (andI (andI (andI (andI (andI (andI (andI (andI (andI (andI (andI (andI (andI (andI (andI (andI (andI (andI (andI zpG zpH) zpI) zpJ) zpK) zpL) zpM) zpN) zpO) zpP) zoA) zoB) zoC) zoD) zoE) zoF) zoG) zoH) zoI) zoJ) zoK) zoL) zoM) zoN) zoO) zoP) zoQ) zoR) ?_) zoS) zoT) zoU)
 kernel_rfl
theorem over5:Rows.fnExactCertainUnionAnswersRow.holds Tryz.pinned (OpenSpec.ofChange Rows.fnExactCertainUnionAnswersSpec) :=
 OpenClaim.holds_of_wide 5 Tryz.f5 rfl rfl rfl rfl rfl rfl rfl ⟨rfl,rfl,rfl,rfl,rfl⟩ rfl rfl rfl rfl rfl (by kernel_rfl) Tryz.func5 znT
  (of_decide_eq_true (by kernel_rfl)) (by unfold Func.isWrapper;first | (rw [if_pos (by decide +kernel)];kernel_rfl) | (rw [if_neg (by decide +kernel)];exact ⟨rfl,rfl⟩))
  (fun os started H enc _=>zn1 os started H enc)
end Go.Proofs.YtiacahdabflcdaaGreat.Q
namespace Go.Proofs.YtiacahdabflcdaaGreat
theorem fnExactCertainUnionAnswers_holds:Rows.FnExactCertainUnionAnswersSaid:=Q.over5
#print axioms fnExactCertainUnionAnswers_holds
end Go.Proofs.YtiacahdabflcdaaGreat

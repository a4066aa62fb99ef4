/-
The law FnExactChase holds of the given program: for every instance and all dependencies, impl.Chase returns what the reference's Chase returns, leaves its arguments as they were, and shares no memory with them. No condition.
-/
import Derived.Test.YtiacahdabflcdaaGreatCe
import Derived.Test.YtiacahdabflcdaaGreatCf
import Derived.Test.YtiacahdabflcdaaGreatCc
import Derived.Test.YtiacahdabflcdaaGreatRows
set_option linter.unusedVariables false
set_option linter.unusedSimpArgs false
namespace Go.Proofs.YtiacahdabflcdaaGreat.Q
open Go Ovi
set_option maxRecDepth 1000000
theorem F4.eq (k:Nat) (call:zi) (a0_0 a0_1 a1:Ovi.Rows):za1 P hs call (4:FuncId) rs44 k Tryz.f4 [.agg [AV.s 3 a0_0,AV.s 2 a0_1],AV.s 5 a1]=zb (call 6 [.agg [.d (.list 3 a0_0),.d (.list 2 a0_1)],.d (.int .i64 1048576)]) fun r5=>zg (resI .i64 1 false 1 r5 0 0) fun n6=>ite' (decide (n6 < 0)) (some ([(false,[.d (.bool true)])])) (zb (call 7 [.d (.list 5 a1),.d (.int .i64 n6)]) fun r7=>zg (resI .i64 1 false 1 r7 0 0) fun n8=>ite' (decide (n8 < 0)) (some ([(false,[.d (.bool true)])])) (zb (call 9 [.agg [.d (.list 3 a0_0),.d (.list 2 a0_1)]]) fun r9=>zc (resO 112 3 1 true 2 r9 0 0) fun l10=>zc (resF 114 2 1 1 true 2 r9 0 1) fun l11=>zb (call 10 [.d (.list 5 a1)]) fun r12=>zc (resF 76 5 2 1 false 1 r12 0 0) fun l13=>zb (call 22 [.agg [.d (.list 3 l10),.d (.list 2 l11)],.d (.list 5 l13)]) fun r14=>zc (resL 3 2 true 4 r14 0 0) fun l15=>zc (resL 2 2 true 4 r14 0 1) fun l16=>zg (resI .i64 2 true 4 r14 0 2) fun n17=>zc (resL 2 2 true 4 r14 0 3) fun l18=>zj (resB 2 false 1 r14 1 0) fun b19=>zb (call 9 [.agg [.d (.list 3 a0_0),.d (.list 2 a0_1)]]) fun r20=>zc (resO 112 3 1 true 2 r20 0 0) fun l21=>zc (resF 114 2 1 1 true 2 r20 0 1) fun l22=>zb (call 10 [.d (.list 5 a1)]) fun r23=>zc (resF 76 5 2 1 false 1 r23 0 0) fun l24=>zb (call 23 [.agg [.d (.list 3 l21),.d (.list 2 l22)],.d (.list 5 l24)]) fun r25=>zc (resF 112 3 0 2 true 4 r25 0 0) fun l26=>ite' (depR 0 l26) (zc (resF 114 2 1 2 true 4 r25 0 1) fun l27=>ite' (depR 1 l27) (zg (resI .i64 2 true 4 r25 0 2) fun n28=>zc (resF 83 2 1 2 true 4 r25 0 3) fun l29=>ite' (depR 1 l29) (zj (resB 2 false 1 r25 1 0) fun b30=>zb (call 13 [.agg [.d (.list 3 l26),.d (.list 2 l27),.d (.int .i64 n28),.d (.list 2 l29)],.agg [.d (.list 3 l15),.d (.list 2 l16),.d (.int .i64 n17),.d (.list 2 l18)]]) fun r31=>zj (resB 1 false 1 r31 0 0) fun b32=>ite' (!b32) (some ([(false,[.d (.bool false)])])) (ite' (!b30==b19) (some ([(false,[.d (.bool false)])])) (zb (call 9 [.agg [.d (.list 3 a0_0),.d (.list 2 a0_1)]]) fun r33=>zc (resO 112 3 1 true 2 r33 0 0) fun l34=>zc (resF 114 2 1 1 true 2 r33 0 1) fun l35=>zb (call 14 [.agg [.d (.list 3 l21),.d (.list 2 l22)],.agg [.d (.list 3 l34),.d (.list 2 l35)]]) fun r36=>zj (resB 1 false 1 r36 0 0) fun b37=>ite' (!b37) (some ([(false,[.d (.bool false)])])) (zb (call 10 [.d (.list 5 a1)]) fun r38=>zc (resF 76 5 2 1 false 1 r38 0 0) fun l39=>zb (call 15 [.d (.list 5 l24),.d (.list 5 l39)]) fun r40=>zj (resB 1 false 1 r40 0 0) fun b41=>ite' (!b41) (some ([(false,[.d (.bool false)])])) (ite' (depR 0 l21) (ite' (depR 1 l22) (ite' (depR 2 l24) (ite' (depR 0 l26) (ite' (depR 1 l27) (ite' (depR 1 l29) (zb (call 17 [.var 0 0,.d (.bool true),.d (.int .i64 1),.d (.int .i64 (↑112:Int)),.d (.list 3 l21),.d (.int .i64 (↑114:Int)),.d (.list 2 l22)]) fun r42=>zc (resO 112 3 3 false 1 r42 0 0) fun l43=>zc (resO 114 2 3 false 1 r42 1 0) fun l44=>zg (resI .i64 3 false 1 r42 2 0) fun n45=>ite' (depR 2 l24) (ite' (depR 0 l26) (ite' (depR 1 l27) (ite' (depR 1 l29) (zb (call 18 [.var 0 0,.d (.bool false),.d (.int .i64 n45),.d (.int .i64 (↑76:Int)),.d (.list 5 l24)]) fun r46=>zc (resO 76 5 2 false 1 r46 0 0) fun l47=>zg (resI .i64 2 false 1 r46 1 0) fun n48=>ite' (decide (n48 < 0)) (some ([(false,[.d (.bool false)])])) (zb (call 13 [.agg [.d (.list 3 l26),.d (.list 2 l27),.d (.int .i64 n28),.d (.list 2 l29)],.agg [.d (.list 3 l15),.d (.list 2 l16),.d (.int .i64 n17),.d (.list 2 l18)]]) fun r49=>zj (resB 1 false 1 r49 0 0) fun b50=>ite' (!b50) (some ([(false,[.d (.bool false)])])) (ite' (!b30==b19) (some ([(false,[.d (.bool false)])])) (ite' (depR 0 l26) (ite' (depR 1 l27) (ite' (depR 1 l29) (zb (call 20 [.var 0 0,.d (.bool true),.d (.int .i64 1),.d (.int .i64 (↑112:Int)),.d (.list 3 l26),.d (.int .i64 (↑114:Int)),.d (.list 2 l27),.d (.int .i64 n28),.d (.int .i64 (↑83:Int)),.d (.list 2 l29)]) fun r51=>zc (resO 112 3 4 false 1 r51 0 0) fun l52=>zc (resO 114 2 4 false 1 r51 1 0) fun l53=>zc (resO 83 2 4 false 1 r51 2 0) fun l54=>zg (resI .i64 4 false 1 r51 3 0) fun n55=>zb (call 21 [.agg [.d (.list 3 l52),.d (.list 2 l53),.d (.int .i64 n28),.d (.list 2 l54)],.d (.int .i64 1)]) fun r56=>zg (resI .i64 1 false 1 r56 0 0) fun n57=>ite' (decide (n57 < 0)) (some ([(false,[.d (.bool false)])])) (ite' (n57 != n55) (some ([(false,[.d (.bool false)])])) (zb (call 9 [.agg [.d (.list 3 a0_0),.d (.list 2 a0_1)]]) fun r58=>zc (resO 112 3 1 true 2 r58 0 0) fun l59=>zc (resF 114 2 1 1 true 2 r58 0 1) fun l60=>zb (call 10 [.d (.list 5 a1)]) fun r61=>zc (resF 76 5 2 1 false 1 r61 0 0) fun l62=>zb (call 23 [.agg [.d (.list 3 l59),.d (.list 2 l60)],.d (.list 5 l62)]) fun r63=>zc (resF 112 3 0 2 true 4 r63 0 0) fun l64=>ite' (depR 0 l64) (zc (resF 114 2 1 2 true 4 r63 0 1) fun l65=>ite' (depR 1 l65) (zg (resI .i64 2 true 4 r63 0 2) fun n66=>zc (resF 83 2 1 2 true 4 r63 0 3) fun l67=>ite' (depR 1 l67) (zj (resB 2 false 1 r63 1 0) fun b68=>zb (call 13 [.agg [.d (.list 3 l64),.d (.list 2 l65),.d (.int .i64 n66),.d (.list 2 l67)],.agg [.d (.list 3 l15),.d (.list 2 l16),.d (.int .i64 n17),.d (.list 2 l18)]]) fun r69=>zj (resB 1 false 1 r69 0 0) fun b70=>ite' (!b70) (some ([(false,[.d (.bool false)])])) (ite' (!b68==b19) (some ([(false,[.d (.bool false)])])) (zb (call 21 [.agg [.d (.list 3 l52),.d (.list 2 l53),.d (.int .i64 n28),.d (.list 2 l54)],.d (.int .i64 1)]) fun r71=>zg (resI .i64 1 false 1 r71 0 0) fun n72=>ite' (decide (n72 < 0)) (some ([(false,[.d (.bool false)])])) (ite' (n72 != n55) (some ([(false,[.d (.bool false)])])) (some ([(false,[.d (.bool true)])])))))) none) none) none))) none) none) none)))) none) none) none) none) none) none) none) none) none) none))))) none) none) none)):=by kernel_rfl
variable {k:Nat}
theorem zpO (call:zi) (k:Nat) {a b d:Ovi.Rows} {n:Int} 
  (tA:call 6 [.agg [.d (.list 3 a),.d (.list 2 b)],.d (.int .i64 1048576)]=some [(false,[.d (.int .i64 n)])]) (hn:decide (n < 0)=true) :
  za1 P hs call (4:FuncId) rs44 k Tryz.f4 [.agg [.s 3 a,.s 2 b],.s 5 d]=bo true:=by
 rw [F4.eq,tA,zl,zx,zd,ite'_t hn]
 rfl
theorem zpN (call:zi) (k:Nat) {a b d:Ovi.Rows} {n n2:Int} 
  (tA:call 6 [.agg [.d (.list 3 a),.d (.list 2 b)],.d (.int .i64 1048576)]=some [(false,[.d (.int .i64 n)])]) (hn:decide (n < 0)=false)
  (tB:call 7 [.d (.list 5 d),.d (.int .i64 n)]=some [(false,[.d (.int .i64 n2)])]) (hn2:decide (n2 < 0)=true) :
  za1 P hs call (4:FuncId) rs44 k Tryz.f4 [.agg [.s 3 a,.s 2 b],.s 5 d]=bo true:=by
 rw [F4.eq,tA,zl,zx,zd,ite'_f hn,tB,zl,zx,zd,ite'_t hn2]
 rfl
theorem zpP (call:zi) (k:Nat) {a b d a' b' d' U V W U' V' W':Ovi.Rows} {g:Bool} {c n n2 z1 z2 z3 z4:Int} {XI XD R1 R2 MI MD MR:Res} 
  (tA:call 6 [.agg [.d (.list 3 a),.d (.list 2 b)],.d (.int .i64 1048576)]=some [(false,[.d (.int .i64 n)])]) (hn:decide (n < 0)=false)
  (tB:call 7 [.d (.list 5 d),.d (.int .i64 n)]=some [(false,[.d (.int .i64 n2)])]) (hn2:decide (n2 < 0)=false)
  (tI:call 9 [.agg [.d (.list 3 a),.d (.list 2 b)]]=some XI) (x0:resO 112 3 1 true 2 XI 0 0=some a) (x1:resF 114 2 1 1 true 2 XI 0 1=some b)
  (tD:call 10 [.d (.list 5 d)]=some XD) (x2:resF 76 5 2 1 false 1 XD 0 0=some d)
  (ts:call 22 [.agg [.d (.list 3 a),.d (.list 2 b)],.d (.list 5 d)]=some R1) (r0:resL 3 2 true 4 R1 0 0=some U) (r1:resL 2 2 true 4 R1 0 1=some V) (r2:resI .i64 2 true 4 R1 0 2=some c) (r3:resL 2 2 true 4 R1 0 3=some W) (r4:resB 2 false 1 R1 1 0=some g)
  (ti:call 23 [.agg [.d (.list 3 a),.d (.list 2 b)],.d (.list 5 d)]=some R2) (s0:resF 112 3 0 2 true 4 R2 0 0=some U) (s1:resF 114 2 1 2 true 4 R2 0 1=some V) (s2:resI .i64 2 true 4 R2 0 2=some c) (s3:resF 83 2 1 2 true 4 R2 0 3=some W) (s4:resB 2 false 1 R2 1 0=some g)
  (d1:depR 0 a=true) (d2:depR 1 b=true) (d3:depR 2 d=true) (d4:depR 0 U=true) (d5:depR 1 V=true) (d6:depR 1 W=true)
  (tR:call 13 [.agg [.d (.list 3 U),.d (.list 2 V),.d (.int .i64 c),.d (.list 2 W)],.agg [.d (.list 3 U),.d (.list 2 V),.d (.int .i64 c),.d (.list 2 W)]]=some [(false,[.d (.bool true)])])
  (tE:call 14 [.agg [.d (.list 3 a),.d (.list 2 b)],.agg [.d (.list 3 a),.d (.list 2 b)]]=some [(false,[.d (.bool true)])])
  (tF:call 15 [.d (.list 5 d),.d (.list 5 d)]=some [(false,[.d (.bool true)])])
  (mI:call 17 [.var 0 0,.d (.bool true),.d (.int .i64 1),.d (.int .i64 112),.d (.list 3 a),.d (.int .i64 114),.d (.list 2 b)]=some MI)
  (v0:resO 112 3 3 false 1 MI 0 0=some a') (v1:resO 114 2 3 false 1 MI 1 0=some b') (v2:resI .i64 3 false 1 MI 2 0=some z1)
  (mD:call 18 [.var 0 0,.d (.bool false),.d (.int .i64 z1),.d (.int .i64 76),.d (.list 5 d)]=some MD)
  (w0:resO 76 5 2 false 1 MD 0 0=some d') (w1:resI .i64 2 false 1 MD 1 0=some z2) (hz2:0≤z2)
  (mR:call 20 [.var 0 0,.d (.bool true),.d (.int .i64 1),.d (.int .i64 112),.d (.list 3 U),.d (.int .i64 114),.d (.list 2 V),.d (.int .i64 c),.d (.int .i64 83),.d (.list 2 W)]=some MR)
  (u0:resO 112 3 4 false 1 MR 0 0=some U') (u1:resO 114 2 4 false 1 MR 1 0=some V') (u2:resO 83 2 4 false 1 MR 2 0=some W') (u3:resI .i64 4 false 1 MR 3 0=some z4) (hz4:0≤z4)
  (tH:call 21 [.agg [.d (.list 3 U'),.d (.list 2 V'),.d (.int .i64 c),.d (.list 2 W')],.d (.int .i64 1)]=some [(false,[.d (.int .i64 z4)])]) :
  za1 P hs call (4:FuncId) rs44 k Tryz.f4 [.agg [.s 3 a,.s 2 b],.s 5 d]=bo true:=by
 have n1:decide (z2 < 0)=false:=by simp only [decide_eq_false_iff_not];omega
 have n2':decide (z4 < 0)=false:=by simp only [decide_eq_false_iff_not];omega
 have n3':(z4 != z4)=false:=zcA _
 have n5:(!g==g)=false:=by cases g<;>rfl
 have tt:(!true)=false:=rfl
 have i0:∀ (x y:Option Res),ite' false x y=y:=fun _ _=>rfl
 have i1:∀ (x y:Option Res),ite' true x y=x:=fun _ _=>rfl
 rw [F4.eq,tA,zl,zx,zd,hn,i0,tB,zl,zx,zd,hn2,i0]
 simp only [tI,zl,x0,x1,zh,tD,x2,ts,r0,r1,r2,r3,r4,zd,zu,ti,s0,s1,s2,s3,s4,d1,d2,d3,d4,d5,d6,i1]
 simp only [tR,zl,zK,zu,tt,i0,n5,tE,tF]
 rw [mI]
 simp only [zl,v0,v1,v2,zh,zd,i1]
 rw [mD]
 simp only [zl,w0,w1,zh,zd,n1,i0,i1,tR,zK,zu,tt,n5]
 rw [mR]
 simp only [zl,u0,u1,u2,u3,zh,zd,tH,zx,n2',n3',i0,i1,tR,zK,zu,tt,n5]
 rfl
end Go.Proofs.YtiacahdabflcdaaGreat.Q
namespace Go.Proofs.YtiacahdabflcdaaGreat.Q
open Go Ovi
set_option maxRecDepth 1000000
variable {k:Nat}
theorem zpM (hk:4000000≤k) {a b d:Ovi.Rows} (h1:Fit Rl (.list 3 a)) (h2:Fit At (.list 2 b)) (h3:Fit Dt (.list 5 d)):za1 P hs (C k) (4:FuncId) rs44 k Tryz.f4 [.agg [.s 3 a,.s 2 b],.s 5 d]=bo true:=by
 obtain ⟨k,rfl⟩:∃ j,k=j+31:=⟨k - 31,by omega⟩
 have t6:=c6 (k:=k+31) (by omega) h1 h2 (left:=1048576) (by omega) (by omega)
 rcases z7 1048576 (szC [.list 3 a,.list 2 b]) with ⟨q1,e1⟩ | ⟨q1,e1⟩<;>rw [e1] at t6
 rotate_left
 ·exact zpO _ _ t6 zdW
 have p1:=q1
 simp only [szC] at p1
 have z1:szD (.list 3 a)≤1048576:=by omega
 have z2:szD (.list 2 b)≤1048576:=by omega
 have t7:=c7 (k:=k+31) (by omega) h3 (left:=1048576 - ((szC [.list 3 a,.list 2 b]:Nat):Int)) (by omega) (by omega)
 rcases z7 (1048576 - ((szC [.list 3 a,.list 2 b]:Nat):Int)) (szD (.list 5 d)) with ⟨q2,e2⟩ | ⟨q2,e2⟩<;>rw [e2] at t7
 rotate_left
 ·exact zpN _ _ t6 (zaC (by omega)) t7 zdW
 have z3:szD (.list 5 d)≤1048576:=by omega
 have t9:=c9 (k:=k+31) (by omega) h1 h2 z1 z2
 have t14:=c14 (k:=k+31) (by omega) h1 h2 z1 z2
 have t10:=c10 (k:=k+31) (by omega) h3 z3
 have t15:=c15 (k:=k+31) (by omega) h3 z3
 obtain ⟨fs,rfl,hF⟩:=h2.atoms'
 obtain ⟨ds,rfl⟩:=zjS h3
 obtain ⟨y1,y2⟩:=zlI z3
 have x2:=z2
 rw [zbH] at x2
 have ya:=Nat.le_trans zgs z1
 have hmax:(1048576:Nat)≤maxLen:=by decide
 obtain ⟨o,ho1,ho⟩:=znq (a:=a) (fs:=fs) ⟨h1,ya,fun x hx=>(hF x hx).2,by omega,fun x hx=>(hF x hx).1⟩ ds y2 y1
 obtain ⟨f1,f2⟩:=ho (k+5) (by omega)
 have g3:ChP (C (k+31) 22 [ia a fs,.d (.list 5 (DD ds))]) a o:=by
  unfold ia at f2 ⊢
  rw [F22.run]
  exact f2.bind
 have g1:C (k+31) 23 [ia a fs,.d (.list 5 (DD ds))]=chJ a o:=by
  unfold ia at f1 ⊢
  rw [F23.run,f1]
  exact znn h1 o
 obtain ⟨R1,R2,U,gs,st,c,g,hR1,hR2,hU,hV,hW,s1,s2,s3,⟨r0,r1,r2,r3,r4⟩,hu⟩:=zlE h1 z1 ho1 g3
 obtain ⟨R3,hR3,u0,u1,u2,u3,u4⟩:=zno hR2 hu
 rw [hR3] at g1
 unfold ia at g1 hR1
 have tR:=c13 (k:=k+31) (by omega) hU hV (a2:=c) hW s1 s2 s3
 have s2':=s2
 have s3':=s3
 rw [zbH] at s2' s3'
 have yU:=Nat.le_trans zgs s1
 have h112:((112:Nat):Int)=112:=rfl
 have h114:((114:Nat):Int)=114:=rfl
 have h76:((76:Nat):Int)=76:=rfl
 have h83:((83:Nat):Int)=83:=rfl
 have h3':((3:Nat):Int)=3:=rfl
 obtain ⟨a',ha'⟩:=zgh h1 1
 obtain ⟨b',hb'⟩:=zbT fs (1+3 * (a.length:Int))
 have m17:=e17 (k:=k+30) ha' hb' (by omega)
 rw [h112,h114] at m17
 obtain ⟨d',md,hd',hd1,hd2⟩:=zkD ds y2 (1+3 * (a.length:Int)+(fs.length+zD fs:Nat))
 have m18:=e52 (k:=k+30) hd' (by omega) (by omega)
 rw [h76] at m18
 obtain ⟨U',hU'⟩:=zgh hU 1
 obtain ⟨V',hV'⟩:=zbT gs (1+3 * U.length)
 obtain ⟨W',hW'⟩:=zbT st (1+3 * (U.length:Int)+(gs.length+zD gs:Nat))
 have mR:=e20 (k:=k+30) (c:=c) hU' hV' hW' (by omega)
 rw [h112,h114,h83] at mR
 have lP:=(zU zaZ hU').2
 have lQ:=(zU zW hV').2
 have lW:=(zU zW hW').2
 rw [zq] at lQ lW
 have hin:∀ gs:List Atom,gs.length+zD gs≤1048576→∀ r∈A1 gs,∀ z l,r=[.int .i64 z,.list 1 l]→l.length≤1048576:=fun gs hg r hr z l e=>by
  obtain ⟨x,hx,rfl⟩:=List.mem_map.1 hr
  cases e
  rw [zn]
  have:=zah hx
  omega
 have tH:=c21 (k:=k+27) (c:=c) hU' hV' hW' (by omega) (by omega) (by omega) (by omega) (by omega) (hin gs s2') (hin st s3') (by omega)
 exact zpP (C (k+31)) (k+31) (z3:=0) t6 (zaC (by omega)) t7 (zaC (by omega)) t9 F9x.1 F9x.2 t10 rfl hR1 r0 r1 r2 r3 r4 g1 u0 u1 u2 u3 u4
  (zd8 h1) (zaQ fs) (zjM ds) (zd8 hU) (zaQ gs) (zaQ st) tR t14 t15 m17 rfl rfl rfl m18 rfl rfl (by omega) mR rfl rfl rfl rfl (by omega) tH
end Go.Proofs.YtiacahdabflcdaaGreat.Q
namespace Go.Proofs.YtiacahdabflcdaaGreat.Q
open Go Ovi Go.ChangeShapes Go.WideShapes Go.ChangeAt Go.RowKit
theorem own:ownKnob Tryz.prog.godebug=none:=by kernel_rfl
theorem zil:laidOutB Tryz.prog=true:=by kernel_rfl
def ty4:List (Bool × List Ty):=[(true,[.list [.str,.int .i64,.bool],.list [.int .i64,.list [.int .i64]]]),(false,[.list [.list [.int .i64,.list [.int .i64]],.list [.int .i64,.list [.int .i64]],.bool,.int .i64,.int .i64]])]
theorem tys4:zfJ Tryz.prog Tryz.f4.params.toList=some ty4:=by kernel_rfl
theorem zl4:zdF Tryz.prog Tryz.f4.params.toList=true:=by kernel_rfl
theorem zlV {av:List AV} (h:zdd ty4 av):za1 P hs (C 4000000) (4:FuncId) rs44 4000000 Tryz.f4 (av.map zeX)=some yes:=by
 match av,h with
 | [p0,p1],h =>
  simp only [ty4,zdd,and_true] at h
  obtain ⟨g0,g1⟩:=h
  cases p0<;>simp only [zcO] at g0
  obtain ⟨ds0,rfl,g0⟩:=g0
  obtain ⟨_,_,rfl,e0_0,g0⟩:=Fits.cons g0
  obtain ⟨_,_,rfl,e0_1,g0⟩:=Fits.cons g0
  obtain rfl:=Fits.nil g0
  obtain ⟨_,rfl,e0_0⟩:=e0_0.list (n:=3) rfl
  obtain ⟨_,rfl,e0_1⟩:=e0_1.list (n:=2) rfl
  cases p1<;>simp only [zcO] at g1
  obtain ⟨_,rfl,g1⟩:=g1.list (n:=5) rfl
  refine Eq.trans ?_ (show bo true=some yes from rfl)
  simpa only [asD,List.map_cons,List.map_nil,zeX,zdc] using zpM (Nat.le_refl _) e0_0 e0_1 g1
set_option maxRecDepth 100000 in
theorem znA (os:Os) (started:os.Started) (H:Type) (enc:TypeId × Value→H) :
  ReturnsInHanded {} Tryz.checked os 4 .any (Rows.fnExactChaseSpec.pre6 enc Tryz.prog Tryz.f4 Rows.fnExactChaseRow.domain false) (Rows.fnExactChaseSpec.post enc Tryz.prog Tryz.f4 false true false false):=by
 refine returnsInHanded_of_change (C:=Tryz.checked) own started (by kernel_rfl) Tryz.func4
  (ChangeSpec.witness6 (enc:=enc) (C:=Tryz.checked) false ⟨#[],#[.agg #[.slice none 0 0,.slice none 0 0],.slice none 0 0],[]⟩ 8 (by kernel_rfl) (by kernel_rfl) (by kernel_rfl) (by kernel_rfl)) ?_
 intro W base args ds gs before hval0 hW hcnd _
 have hval:∀ (j:Nat) t v,Tryz.f4.params[j]? = some t→args[j]? = some v→Value.okWide Tryz.prog W .any base t v:=hval0
 have hW':=hW
 obtain ⟨p,q,hA0,hV,rfl,hfz,hnd⟩:=hW
 have hA:DataW.TrodAll enc Tryz.prog W 0 (fun _=>true) true Tryz.f4.params.toList args.toList ds p:=hA0
 obtain ⟨rfl,rfl⟩:=trodVars_none hV
 obtain ⟨av,hfit,hlen,hac⟩:=zic hA (base:=base) (fun j t v h1 h2=>hval j t v (by simpa using h1) (by simpa using h2)) tys4
 refine (zhp (zcR mixed) (zfI ok) (znc 4000000) (rs:=rs44) (k:=4000000) Tryz.func4 (by kernel_rfl) (zlV hfit) (vs:=args) ⟨by simpa using hlen,fun j a ha=>by
  rw [List.getElem?_map] at ha
  obtain ⟨b,hb,rfl⟩:=Option.map_eq_some_iff.1 ha
  obtain ⟨u,hu,hc⟩:=hac j b hb
  exact ⟨u,by simpa using hu,zkv hc⟩⟩ trivial).mono fun e W' ⟨he,bel⟩=>?_
 subst he
 have hk:=zg5 zil bel zl4 hA
 obtain ⟨d0,d1,rfl⟩:∃ d0 d1,ds=[d0,d1]:=by
  obtain ⟨v0,vs0,d0,ds0,p0,q0,rg0,rfl,rfl,h0,r0⟩:=trodAll_cons hA
  obtain ⟨v1,vs1,d1,ds1,p1,q1,rg1,rfl,rfl,h1,r1⟩:=trodAll_cons r0
  obtain ⟨rfl,rfl,rfl⟩:=trodAll_nil r1
  exact ⟨_,_,rfl⟩
 exact ⟨_,rfl,_,_,_,[],_,[],hW',trodAll_mk1 (shut_bool (show Tryz.prog.underlying 4=some .bool by kernel_rfl) _),hk,rfl,bel.frame _,fun h=>by cases h⟩
theorem andI {a b:Bool} (h1:a=true) (h2:b=true):(a&&b)=true:=by rw [h1,h2];rfl
theorem zpA:(Rows.fnExactChaseRow.wf (OpenSpec.ofChange Rows.fnExactChaseSpec))=true:=by kernel_rfl
theorem zpB:(laidOutB Tryz.prog)=true:=by kernel_rfl
theorem zpC:(mapsRowed Tryz.prog)=true:=by kernel_rfl
theorem zpD:(Tryz.f4.params.all (Tryz.prog.readableRec ·))=true:=by kernel_rfl
theorem zpE:(namedTie Tryz.prog Rows.fnExactChaseRow.named Rows.fnExactChaseSpec.vars)=true:=by kernel_rfl
theorem zpF:((Rows.fnExactChaseRow.stops==[]))=true:=by kernel_rfl
theorem zpG:((Tryz.prog.stops==[]))=true:=by kernel_rfl
theorem zpH:((Rows.fnExactChaseRow.knobs==[]))=true:=by kernel_rfl
theorem zpI:((Tryz.prog.stopKnobs==[]))=true:=by kernel_rfl
theorem zpJ:((Rows.fnExactChaseRow.inPlace==Tryz.prog.inPlace 4))=true:=by kernel_rfl
theorem zop:((Rows.fnExactChaseRow.unfollowed==Tryz.prog.unfollowed 4))=true:=by kernel_rfl
theorem zoq:((Rows.fnExactChaseRow.recurses==Tryz.prog.recurses 4))=true:=by kernel_rfl
theorem zor:((Rows.fnExactChaseRow.named==Tryz.prog.varsNamed 4))=true:=by kernel_rfl
theorem zos:((Rows.fnExactChaseRow.maps==(Tryz.f4.params.toList++Rows.fnExactChaseSpec.plain.varTypes Tryz.prog).any (Tryz.prog.mapsRec ·)))=true:=by kernel_rfl
theorem zot:((Rows.fnExactChaseRow.ifaces==(Tryz.f4.params.toList++Rows.fnExactChaseSpec.plain.varTypes Tryz.prog).any (Tryz.prog.ifacesRec ·)))=true:=by kernel_rfl
theorem zou:((Rows.fnExactChaseRow.mapsOut==Tryz.prog.mapsAmong Tryz.f4.resultTypes.toList))=true:=by kernel_rfl
theorem zov:((Rows.fnExactChaseRow.loops==(Tryz.f4.params.toList++Rows.fnExactChaseSpec.plain.varTypes Tryz.prog).any (Tryz.prog.loopsFrom ·)))=true:=by kernel_rfl
theorem zow:((Rows.fnExactChaseRow.wideKeys==(Tryz.f4.params.toList++Rows.fnExactChaseSpec.plain.varTypes Tryz.prog++Tryz.f4.resultTypes.toList).any (Tryz.prog.wideKeysFrom ·)))=true:=by kernel_rfl
theorem zox:(Rows.fnExactChaseSpec.vars.all (Tryz.prog.varReadable ·))=true:=by kernel_rfl
theorem zoy:(Tryz.f4.resultTypes.all (fun t=>Tryz.prog.readableRec t&&decide (t < Tryz.prog.types.size)))=true:=by kernel_rfl
theorem zoz:((Rows.fnExactChaseRow.ifacesOut==Tryz.f4.resultTypes.toList.any (Tryz.prog.ifacesRec ·)))=true:=by kernel_rfl
theorem zoA:((Rows.fnExactChaseRow.loopsOut==Tryz.f4.resultTypes.toList.any (Tryz.prog.loopsFrom ·)))=true:=by kernel_rfl
theorem zoB:((Rows.fnExactChaseRow.plainKeys==Tryz.prog.plainKeys))=true:=by kernel_rfl
theorem zoC:(Rows.fnExactChaseRow.shortTexts.isNone)=true:=by kernel_rfl
theorem zoD:(Tryz.prog.stopsHeard)=true:=by kernel_rfl
theorem zoE:(Tryz.prog.mayEnter)=true:=by kernel_rfl
theorem zoF:((Rows.fnExactChaseRow.lifted==Tryz.prog.liftsFinal))=true:=by kernel_rfl
theorem zoG:((Tryz.prog.make==some Rows.fnExactChaseRow.make))=true:=by kernel_rfl
theorem zoH:((Rows.fnExactChaseRow.pinned==Rows.fnExactChaseRow.pinnedBy))=true:=by kernel_rfl
theorem zoI:((Rows.fnExactChaseRow.veiled==(Tryz.f4.params.toList++Rows.fnExactChaseSpec.plain.varTypes Tryz.prog++Tryz.f4.resultTypes.toList).any (Tryz.prog.veiledRec ·)))=true:=by kernel_rfl
theorem zoJ:(Rows.fnExactChaseRow.veiledFits Tryz.prog Tryz.f4.params.toList (Tryz.f4.params.toList++Rows.fnExactChaseSpec.plain.varTypes Tryz.prog++Tryz.f4.resultTypes.toList))=true:=by kernel_rfl
theorem zns:joinedFacts Tryz.prog 4 Tryz.f4 Rows.fnExactChaseSpec Rows.fnExactChaseRow=true:=by
 unfold joinedFacts
 refine (andI (andI (andI (andI (andI (andI (andI (andI (andI (andI (andI (andI (andI (andI (andI (andI (andI (andI (andI (andI (andI (andI (andI (andI (andI (andI (andI (andI (andI (andI (andI zpA zpB) zpC) zpD) zpE) zpF) zpG) zpH) zpI) zpJ) zop) zoq) zor) zos) zot) zou) zov) zow) zox) zoy) zoz) zoA) zoB) zoC) zoD) zoE) zoF) zoG) ?_) zoH) zoI) zoJ)
 kernel_rfl
theorem over4:Rows.fnExactChaseRow.holds Tryz.pinned (OpenSpec.ofChange Rows.fnExactChaseSpec) :=
 OpenClaim.holds_of_wide 4 Tryz.f4 rfl rfl rfl rfl rfl rfl rfl ⟨rfl,rfl,rfl,rfl,rfl⟩ rfl rfl rfl rfl rfl (by kernel_rfl) Tryz.func4 zns
  (of_decide_eq_true (by kernel_rfl)) (by unfold Func.isWrapper;first | (rw [if_pos (by decide +kernel)];kernel_rfl) | (rw [if_neg (by decide +kernel)];exact ⟨rfl,rfl⟩))
  (fun os started H enc _=>znA os started H enc)
end Go.Proofs.YtiacahdabflcdaaGreat.Q
namespace Go.Proofs.YtiacahdabflcdaaGreat
theorem fnExactChase_holds:Rows.FnExactChaseSaid:=Q.over4
#print axioms fnExactChase_holds
end Go.Proofs.YtiacahdabflcdaaGreat

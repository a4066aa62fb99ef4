/-
The law FnExactChaseWithOrder holds of the given program: for every instance, all dependencies and all picks, impl.ChaseWithOrder returns what the reference's ChaseWithOrder returns, leaves its arguments as they were, and shares no memory with them. No condition.
-/
import Derived.Test.YtiacahdabflcdaaGreatCe
import Derived.Test.YtiacahdabflcdaaGreatCf
import Derived.Test.YtiacahdabflcdaaGreatCc
import Derived.Test.YtiacahdabflcdaaGreatRows
set_option linter.unusedVariables false
set_option linter.unusedSimpArgs false
namespace Go.Proofs.YtiacahdabflcdaaGreat.Q
open Go Ovi
set_option maxRecDepth 1000000
theorem F3.eq (k:Nat) (call:zi) (a0_0 a0_1 a1 a2:Ovi.Rows):za1 P hs call (3:FuncId) rs43 k Tryz.f3 [.agg [AV.s 3 a0_0,AV.s 2 a0_1],AV.s 5 a1,AV.s 1 a2]=ite' (decide (((List.length a2):Int) > 1048576)) (some ([(false,[.d (.bool true)])])) (zb (call 6 [.agg [.d (.list 3 a0_0),.d (.list 2 a0_1)],.d (.int .i64 1048576)]) fun r6=>zg (resI .i64 1 false 1 r6 0 0) fun n7=>ite' (decide (n7 < 0)) (some ([(false,[.d (.bool true)])])) (zb (call 7 [.d (.list 5 a1),.d (.int .i64 n7)]) fun r8=>zg (resI .i64 1 false 1 r8 0 0) fun n9=>ite' (decide (n9 < 0)) (some ([(false,[.d (.bool true)])])) (zb (call 9 [.agg [.d (.list 3 a0_0),.d (.list 2 a0_1)]]) fun r10=>zc (resO 112 3 1 true 2 r10 0 0) fun l11=>zc (resF 114 2 1 1 true 2 r10 0 1) fun l12=>zb (call 10 [.d (.list 5 a1)]) fun r13=>zc (resF 76 5 2 1 false 1 r13 0 0) fun l14=>zb (call 11 [.d (.list 1 a2)]) fun r15=>zc (resO 3 1 1 false 1 r15 0 0) fun l16=>zb (call 8 [.agg [.d (.list 3 l11),.d (.list 2 l12)],.d (.list 5 l14),.d (.list 1 l16)]) fun r17=>zc (resL 3 2 true 4 r17 0 0) fun l18=>zc (resL 2 2 true 4 r17 0 1) fun l19=>zg (resI .i64 2 true 4 r17 0 2) fun n20=>zc (resL 2 2 true 4 r17 0 3) fun l21=>zj (resB 2 false 1 r17 1 0) fun b22=>zb (call 9 [.agg [.d (.list 3 a0_0),.d (.list 2 a0_1)]]) fun r23=>zc (resO 112 3 1 true 2 r23 0 0) fun l24=>zc (resF 114 2 1 1 true 2 r23 0 1) fun l25=>zb (call 10 [.d (.list 5 a1)]) fun r26=>zc (resF 76 5 2 1 false 1 r26 0 0) fun l27=>zb (call 11 [.d (.list 1 a2)]) fun r28=>zc (resO 3 1 1 false 1 r28 0 0) fun l29=>zb (call 12 [.agg [.d (.list 3 l24),.d (.list 2 l25)],.d (.list 5 l27),.d (.list 1 l29)]) fun r30=>zc (resF 112 3 0 2 true 4 r30 0 0) fun l31=>ite' (depR 0 l31) (zc (resF 114 2 1 2 true 4 r30 0 1) fun l32=>ite' (depR 1 l32) (zg (resI .i64 2 true 4 r30 0 2) fun n33=>zc (resF 83 2 1 2 true 4 r30 0 3) fun l34=>ite' (depR 1 l34) (zj (resB 2 false 1 r30 1 0) fun b35=>zb (call 13 [.agg [.d (.list 3 l31),.d (.list 2 l32),.d (.int .i64 n33),.d (.list 2 l34)],.agg [.d (.list 3 l18),.d (.list 2 l19),.d (.int .i64 n20),.d (.list 2 l21)]]) fun r36=>zj (resB 1 false 1 r36 0 0) fun b37=>ite' (!b37) (some ([(false,[.d (.bool false)])])) (ite' (!b35==b22) (some ([(false,[.d (.bool false)])])) (zb (call 9 [.agg [.d (.list 3 a0_0),.d (.list 2 a0_1)]]) fun r38=>zc (resO 112 3 1 true 2 r38 0 0) fun l39=>zc (resF 114 2 1 1 true 2 r38 0 1) fun l40=>zb (call 14 [.agg [.d (.list 3 l24),.d (.list 2 l25)],.agg [.d (.list 3 l39),.d (.list 2 l40)]]) fun r41=>zj (resB 1 false 1 r41 0 0) fun b42=>ite' (!b42) (some ([(false,[.d (.bool false)])])) (zb (call 10 [.d (.list 5 a1)]) fun r43=>zc (resF 76 5 2 1 false 1 r43 0 0) fun l44=>zb (call 15 [.d (.list 5 l27),.d (.list 5 l44)]) fun r45=>zj (resB 1 false 1 r45 0 0) fun b46=>ite' (!b46) (some ([(false,[.d (.bool false)])])) (zb (call 11 [.d (.list 1 a2)]) fun r47=>zc (resO 3 1 1 false 1 r47 0 0) fun l48=>zb (call 16 [.d (.list 1 l29),.d (.list 1 l48)]) fun r49=>zj (resB 1 false 1 r49 0 0) fun b50=>ite' (!b50) (some ([(false,[.d (.bool false)])])) (ite' (depR 0 l24) (ite' (depR 1 l25) (ite' (depR 2 l27) (ite' (depR 0 l29) (ite' (depR 0 l31) (ite' (depR 1 l32) (ite' (depR 1 l34) (zb (call 17 [.var 0 0,.d (.bool true),.d (.int .i64 1),.d (.int .i64 (↑112:Int)),.d (.list 3 l24),.d (.int .i64 (↑114:Int)),.d (.list 2 l25)]) fun r51=>zc (resO 112 3 3 false 1 r51 0 0) fun l52=>zc (resO 114 2 3 false 1 r51 1 0) fun l53=>zg (resI .i64 3 false 1 r51 2 0) fun n54=>ite' (depR 2 l27) (ite' (depR 0 l29) (ite' (depR 0 l31) (ite' (depR 1 l32) (ite' (depR 1 l34) (zb (call 18 [.var 0 0,.d (.bool false),.d (.int .i64 n54),.d (.int .i64 (↑76:Int)),.d (.list 5 l27)]) fun r55=>zc (resO 76 5 2 false 1 r55 0 0) fun l56=>zg (resI .i64 2 false 1 r55 1 0) fun n57=>ite' (depR 0 l29) (ite' (depR 0 l31) (ite' (depR 1 l32) (ite' (depR 1 l34) (zb (call 19 [.var 0 0,.d (.bool false),.d (.int .i64 n57),.d (.int .i64 (↑3:Int)),.d (.list 1 l29)]) fun r58=>zc (resO 3 1 2 false 1 r58 0 0) fun l59=>zg (resI .i64 2 false 1 r58 1 0) fun n60=>ite' (decide (n60 < 0)) (some ([(false,[.d (.bool false)])])) (zb (call 13 [.agg [.d (.list 3 l31),.d (.list 2 l32),.d (.int .i64 n33),.d (.list 2 l34)],.agg [.d (.list 3 l18),.d (.list 2 l19),.d (.int .i64 n20),.d (.list 2 l21)]]) fun r61=>zj (resB 1 false 1 r61 0 0) fun b62=>ite' (!b62) (some ([(false,[.d (.bool false)])])) (ite' (!b35==b22) (some ([(false,[.d (.bool false)])])) (ite' (depR 0 l31) (ite' (depR 1 l32) (ite' (depR 1 l34) (zb (call 20 [.var 0 0,.d (.bool true),.d (.int .i64 1),.d (.int .i64 (↑112:Int)),.d (.list 3 l31),.d (.int .i64 (↑114:Int)),.d (.list 2 l32),.d (.int .i64 n33),.d (.int .i64 (↑83:Int)),.d (.list 2 l34)]) fun r63=>zc (resO 112 3 4 false 1 r63 0 0) fun l64=>zc (resO 114 2 4 false 1 r63 1 0) fun l65=>zc (resO 83 2 4 false 1 r63 2 0) fun l66=>zg (resI .i64 4 false 1 r63 3 0) fun n67=>zb (call 21 [.agg [.d (.list 3 l64),.d (.list 2 l65),.d (.int .i64 n33),.d (.list 2 l66)],.d (.int .i64 1)]) fun r68=>zg (resI .i64 1 false 1 r68 0 0) fun n69=>ite' (decide (n69 < 0)) (some ([(false,[.d (.bool false)])])) (ite' (n69 != n67) (some ([(false,[.d (.bool false)])])) (zb (call 9 [.agg [.d (.list 3 a0_0),.d (.list 2 a0_1)]]) fun r70=>zc (resO 112 3 1 true 2 r70 0 0) fun l71=>zc (resF 114 2 1 1 true 2 r70 0 1) fun l72=>zb (call 10 [.d (.list 5 a1)]) fun r73=>zc (resF 76 5 2 1 false 1 r73 0 0) fun l74=>zb (call 11 [.d (.list 1 a2)]) fun r75=>zc (resO 3 1 1 false 1 r75 0 0) fun l76=>zb (call 12 [.agg [.d (.list 3 l71),.d (.list 2 l72)],.d (.list 5 l74),.d (.list 1 l76)]) fun r77=>zc (resF 112 3 0 2 true 4 r77 0 0) fun l78=>ite' (depR 0 l78) (zc (resF 114 2 1 2 true 4 r77 0 1) fun l79=>ite' (depR 1 l79) (zg (resI .i64 2 true 4 r77 0 2) fun n80=>zc (resF 83 2 1 2 true 4 r77 0 3) fun l81=>ite' (depR 1 l81) (zj (resB 2 false 1 r77 1 0) fun b82=>zb (call 13 [.agg [.d (.list 3 l78),.d (.list 2 l79),.d (.int .i64 n80),.d (.list 2 l81)],.agg [.d (.list 3 l18),.d (.list 2 l19),.d (.int .i64 n20),.d (.list 2 l21)]]) fun r83=>zj (resB 1 false 1 r83 0 0) fun b84=>ite' (!b84) (some ([(false,[.d (.bool false)])])) (ite' (!b82==b22) (some ([(false,[.d (.bool false)])])) (zb (call 21 [.agg [.d (.list 3 l64),.d (.list 2 l65),.d (.int .i64 n33),.d (.list 2 l66)],.d (.int .i64 1)]) fun r85=>zg (resI .i64 1 false 1 r85 0 0) fun n86=>ite' (decide (n86 < 0)) (some ([(false,[.d (.bool false)])])) (ite' (n86 != n67) (some ([(false,[.d (.bool false)])])) (some ([(false,[.d (.bool true)])])))))) none) none) none))) none) none) none)))) none) none) none) none) none) none) none) none) none) none) none) none) none) none) none) none)))))) none) none) none))):=by kernel_rfl
variable {k:Nat}
theorem zpR (call:zi) (k:Nat) {a b d p:Ovi.Rows} {n:Int} (hp:decide ((List.length p:Int) > 1048576)=false) 
  (tA:call 6 [.agg [.d (.list 3 a),.d (.list 2 b)],.d (.int .i64 1048576)]=some [(false,[.d (.int .i64 n)])]) (hn:decide (n < 0)=true) :
  za1 P hs call (3:FuncId) rs43 k Tryz.f3 [.agg [.s 3 a,.s 2 b],.s 5 d,.s 1 p]=bo true:=by
 rw [F3.eq,ite'_f hp,tA,zl,zx,zd,ite'_t hn]
 rfl
theorem zpQ (call:zi) (k:Nat) {a b d p:Ovi.Rows} {n n2:Int} (hp:decide ((List.length p:Int) > 1048576)=false) 
  (tA:call 6 [.agg [.d (.list 3 a),.d (.list 2 b)],.d (.int .i64 1048576)]=some [(false,[.d (.int .i64 n)])]) (hn:decide (n < 0)=false)
  (tB:call 7 [.d (.list 5 d),.d (.int .i64 n)]=some [(false,[.d (.int .i64 n2)])]) (hn2:decide (n2 < 0)=true) :
  za1 P hs call (3:FuncId) rs43 k Tryz.f3 [.agg [.s 3 a,.s 2 b],.s 5 d,.s 1 p]=bo true:=by
 rw [F3.eq,ite'_f hp,tA,zl,zx,zd,ite'_f hn,tB,zl,zx,zd,ite'_t hn2]
 rfl
theorem zpT (call:zi) (k:Nat) {a b d p a' b' d' U V W U' V' W' p':Ovi.Rows} {g:Bool} {c n n2 z1 z2 z3 z4:Int} {XI XD R1 R2 MI MD MR XP MP:Res} (hp:decide ((List.length p:Int) > 1048576)=false) 
  (tA:call 6 [.agg [.d (.list 3 a),.d (.list 2 b)],.d (.int .i64 1048576)]=some [(false,[.d (.int .i64 n)])]) (hn:decide (n < 0)=false)
  (tB:call 7 [.d (.list 5 d),.d (.int .i64 n)]=some [(false,[.d (.int .i64 n2)])]) (hn2:decide (n2 < 0)=false)
  (tI:call 9 [.agg [.d (.list 3 a),.d (.list 2 b)]]=some XI) (x0:resO 112 3 1 true 2 XI 0 0=some a) (x1:resF 114 2 1 1 true 2 XI 0 1=some b)
  (tD:call 10 [.d (.list 5 d)]=some XD) (x2:resF 76 5 2 1 false 1 XD 0 0=some d)
  (tP:call 11 [.d (.list 1 p)]=some XP) (x3:resO 3 1 1 false 1 XP 0 0=some p)
  (ts:call 8 [.agg [.d (.list 3 a),.d (.list 2 b)],.d (.list 5 d),.d (.list 1 p)]=some R1) (r0:resL 3 2 true 4 R1 0 0=some U) (r1:resL 2 2 true 4 R1 0 1=some V) (r2:resI .i64 2 true 4 R1 0 2=some c) (r3:resL 2 2 true 4 R1 0 3=some W) (r4:resB 2 false 1 R1 1 0=some g)
  (ti:call 12 [.agg [.d (.list 3 a),.d (.list 2 b)],.d (.list 5 d),.d (.list 1 p)]=some R2) (s0:resF 112 3 0 2 true 4 R2 0 0=some U) (s1:resF 114 2 1 2 true 4 R2 0 1=some V) (s2:resI .i64 2 true 4 R2 0 2=some c) (s3:resF 83 2 1 2 true 4 R2 0 3=some W) (s4:resB 2 false 1 R2 1 0=some g)
  (d1:depR 0 a=true) (d2:depR 1 b=true) (d3:depR 2 d=true) (d4:depR 0 U=true) (d5:depR 1 V=true) (d6:depR 1 W=true) (d7:depR 0 p=true)
  (tR:call 13 [.agg [.d (.list 3 U),.d (.list 2 V),.d (.int .i64 c),.d (.list 2 W)],.agg [.d (.list 3 U),.d (.list 2 V),.d (.int .i64 c),.d (.list 2 W)]]=some [(false,[.d (.bool true)])])
  (tE:call 14 [.agg [.d (.list 3 a),.d (.list 2 b)],.agg [.d (.list 3 a),.d (.list 2 b)]]=some [(false,[.d (.bool true)])])
  (tF:call 15 [.d (.list 5 d),.d (.list 5 d)]=some [(false,[.d (.bool true)])])
  (tG:call 16 [.d (.list 1 p),.d (.list 1 p)]=some [(false,[.d (.bool true)])])
  (mI:call 17 [.var 0 0,.d (.bool true),.d (.int .i64 1),.d (.int .i64 112),.d (.list 3 a),.d (.int .i64 114),.d (.list 2 b)]=some MI)
  (v0:resO 112 3 3 false 1 MI 0 0=some a') (v1:resO 114 2 3 false 1 MI 1 0=some b') (v2:resI .i64 3 false 1 MI 2 0=some z1)
  (mD:call 18 [.var 0 0,.d (.bool false),.d (.int .i64 z1),.d (.int .i64 76),.d (.list 5 d)]=some MD)
  (w0:resO 76 5 2 false 1 MD 0 0=some d') (w1:resI .i64 2 false 1 MD 1 0=some z2) 
  (mP:call 19 [.var 0 0,.d (.bool false),.d (.int .i64 z2),.d (.int .i64 3),.d (.list 1 p)]=some MP)
  (y0:resO 3 1 2 false 1 MP 0 0=some p') (y1:resI .i64 2 false 1 MP 1 0=some z3) (hz3:0≤z3)
  (mR:call 20 [.var 0 0,.d (.bool true),.d (.int .i64 1),.d (.int .i64 112),.d (.list 3 U),.d (.int .i64 114),.d (.list 2 V),.d (.int .i64 c),.d (.int .i64 83),.d (.list 2 W)]=some MR)
  (u0:resO 112 3 4 false 1 MR 0 0=some U') (u1:resO 114 2 4 false 1 MR 1 0=some V') (u2:resO 83 2 4 false 1 MR 2 0=some W') (u3:resI .i64 4 false 1 MR 3 0=some z4) (hz4:0≤z4)
  (tH:call 21 [.agg [.d (.list 3 U'),.d (.list 2 V'),.d (.int .i64 c),.d (.list 2 W')],.d (.int .i64 1)]=some [(false,[.d (.int .i64 z4)])]) :
  za1 P hs call (3:FuncId) rs43 k Tryz.f3 [.agg [.s 3 a,.s 2 b],.s 5 d,.s 1 p]=bo true:=by
 have n1:decide (z3 < 0)=false:=by simp only [decide_eq_false_iff_not];omega
 have n2':decide (z4 < 0)=false:=by simp only [decide_eq_false_iff_not];omega
 have n3':(z4 != z4)=false:=zcA _
 have n5:(!g==g)=false:=by cases g<;>rfl
 have tt:(!true)=false:=rfl
 have i0:∀ (x y:Option Res),ite' false x y=y:=fun _ _=>rfl
 have i1:∀ (x y:Option Res),ite' true x y=x:=fun _ _=>rfl
 rw [F3.eq,ite'_f hp,tA,zl,zx,zd,hn,i0,tB,zl,zx,zd,hn2,i0]
 simp only [tI,zl,x0,x1,zh,tD,x2,tP,x3,ts,r0,r1,r2,r3,r4,zd,zu,ti,s0,s1,s2,s3,s4,d1,d2,d3,d4,d5,d6,d7,i1]
 simp only [tR,zl,zK,zu,tt,i0,n5,tE,tF,tG]
 rw [mI]
 simp only [zl,v0,v1,v2,zh,zd,i1]
 rw [mD]
 simp only [zl,w0,w1,zh,zd,i1]
 rw [mP]
 simp only [zl,y0,y1,zh,zd,n1,i0,i1,tR,zK,zu,tt,n5]
 rw [mR]
 simp only [zl,u0,u1,u2,u3,zh,zd,tH,zx,n2',n3',i0,i1,tR,zK,zu,tt,n5]
 rfl
end Go.Proofs.YtiacahdabflcdaaGreat.Q
namespace Go.Proofs.YtiacahdabflcdaaGreat.Q
open Go Ovi
set_option maxRecDepth 1000000
variable {k:Nat}
theorem zpS (call:zi) (k:Nat) {a b d p:Ovi.Rows} (hp:decide ((List.length p:Int) > 1048576)=true) :
  za1 P hs call (3:FuncId) rs43 k Tryz.f3 [.agg [.s 3 a,.s 2 b],.s 5 d,.s 1 p]=bo true:=by
 rw [F3.eq,ite'_t hp]
 rfl
theorem zpL (hk:4000000≤k) {a b d p:Ovi.Rows} (h1:Fit Rl (.list 3 a)) (h2:Fit At (.list 2 b)) (h3:Fit Dt (.list 5 d)) (h4:Fit (.list [.int .i64]) (.list 1 p)):za1 P hs (C k) (3:FuncId) rs43 k Tryz.f3 [.agg [.s 3 a,.s 2 b],.s 5 d,.s 1 p]=bo true:=by
 obtain ⟨k,rfl⟩:∃ j,k=j+31:=⟨k - 31,by omega⟩
 by_cases hp:decide ((List.length p:Int) > 1048576)=true
 ·exact zpS _ _ hp
 have hp:decide ((List.length p:Int) > 1048576)=false:=by simpa using hp
 have hp':p.length≤1048576:=by have:=of_decide_eq_false hp;omega
 obtain ⟨ps,rfl,hps⟩:=h4.ints'
 have zp:szD (.list 1 (I1 ps))≤1048576:=by rw [znN];rw [zn] at hp';exact hp'
 rw [zn] at hp'
 have t6:=c6 (k:=k+31) (by omega) h1 h2 (left:=1048576) (by omega) (by omega)
 rcases z7 1048576 (szC [.list 3 a,.list 2 b]) with ⟨q1,e1⟩ | ⟨q1,e1⟩<;>rw [e1] at t6
 rotate_left
 ·exact zpR _ _ hp t6 zdW
 have p1:=q1
 simp only [szC] at p1
 have z1:szD (.list 3 a)≤1048576:=by omega
 have z2:szD (.list 2 b)≤1048576:=by omega
 have t7:=c7 (k:=k+31) (by omega) h3 (left:=1048576 - ((szC [.list 3 a,.list 2 b]:Nat):Int)) (by omega) (by omega)
 rcases z7 (1048576 - ((szC [.list 3 a,.list 2 b]:Nat):Int)) (szD (.list 5 d)) with ⟨q2,e2⟩ | ⟨q2,e2⟩<;>rw [e2] at t7
 rotate_left
 ·exact zpQ _ _ hp t6 (zaC (by omega)) t7 zdW
 have z3:szD (.list 5 d)≤1048576:=by omega
 have t9:=c9 (k:=k+31) (by omega) h1 h2 z1 z2
 have t14:=c14 (k:=k+31) (by omega) h1 h2 z1 z2
 have t10:=c10 (k:=k+31) (by omega) h3 z3
 have t15:=c15 (k:=k+31) (by omega) h3 z3
 obtain ⟨fs,rfl,hF⟩:=h2.atoms'
 obtain ⟨ds,rfl⟩:=zjS h3
 obtain ⟨y1,y2⟩:=zlI z3
 have x2:=z2
 rw [zbH] at x2
 have ya:=Nat.le_trans zgs z1
 have hmax:(1048576:Nat)≤maxLen:=by decide
 have t11:=c11 (k:=k+31) (by omega) h4 zp
 have t16:=c16 (k:=k+31) (by omega) h4 zp
 obtain ⟨o,ho1,ho⟩:=znp (a:=a) (fs:=fs) ⟨h1,ya,fun x hx=>(hF x hx).2,by omega,fun x hx=>(hF x hx).1⟩ ds y2 y1 ps hp'
 obtain ⟨g1,g2⟩:=ho (k+6) (by omega)
 obtain ⟨f1,f2⟩:=ho (k+5) (by omega)
 have g3:ChP (C (k+31) 8 [ia a fs,.d (.list 5 (DD ds)),.d (.list 1 (I1 ps))]) a o:=by
  unfold ia at f2 ⊢
  rw [F8.run]
  exact f2.bind
 obtain ⟨R1,R2,U,gs,st,c,g,hR1,hR2,hU,hV,hW,s1,s2,s3,⟨r0,r1,r2,r3,r4⟩,u0,u1,u2,u3,u4⟩:=zlE h1 z1 ho1 g3
 unfold ia at g1 hR1
 rw [hR2] at g1
 have tR:=c13 (k:=k+31) (by omega) hU hV (a2:=c) hW s1 s2 s3
 have s2':=s2
 have s3':=s3
 rw [zbH] at s2' s3'
 have yU:=Nat.le_trans zgs s1
 have h112:((112:Nat):Int)=112:=rfl
 have h114:((114:Nat):Int)=114:=rfl
 have h76:((76:Nat):Int)=76:=rfl
 have h83:((83:Nat):Int)=83:=rfl
 have h3':((3:Nat):Int)=3:=rfl
 obtain ⟨a',ha'⟩:=zgh h1 1
 obtain ⟨b',hb'⟩:=zbT fs (1+3 * (a.length:Int))
 have m17:=e17 (k:=k+30) ha' hb' (by omega)
 rw [h112,h114] at m17
 obtain ⟨d',md,hd',hd1,hd2⟩:=zkD ds y2 (1+3 * (a.length:Int)+(fs.length+zD fs:Nat))
 have m18:=e52 (k:=k+30) hd' (by omega) (by omega)
 rw [h76] at m18
 obtain ⟨p',hp2⟩:=zkJ ps md
 have m19:=e19 (k:=k+30) hp2 (by omega) (by omega)
 rw [h3'] at m19
 obtain ⟨U',hU'⟩:=zgh hU 1
 obtain ⟨V',hV'⟩:=zbT gs (1+3 * U.length)
 obtain ⟨W',hW'⟩:=zbT st (1+3 * (U.length:Int)+(gs.length+zD gs:Nat))
 have mR:=e20 (k:=k+30) (c:=c) hU' hV' hW' (by omega)
 rw [h112,h114,h83] at mR
 have lP:=(zU zaZ hU').2
 have lQ:=(zU zW hV').2
 have lW:=(zU zW hW').2
 rw [zq] at lQ lW
 have hin:∀ gs:List Atom,gs.length+zD gs≤1048576→∀ r∈A1 gs,∀ z l,r=[.int .i64 z,.list 1 l]→l.length≤1048576:=fun gs hg r hr z l e=>by
  obtain ⟨x,hx,rfl⟩:=List.mem_map.1 hr
  cases e
  rw [zn]
  have:=zah hx
  omega
 have tH:=c21 (k:=k+27) (c:=c) hU' hV' hW' (by omega) (by omega) (by omega) (by omega) (by omega) (hin gs s2') (hin st s3') (by omega)
 exact zpT (C (k+31)) (k+31) hp t6 (zaC (by omega)) t7 (zaC (by omega)) t9 F9x.1 F9x.2 t10 rfl t11 rfl hR1 r0 r1 r2 r3 r4 g1 u0 u1 u2 u3 u4
  (zd8 h1) (zaQ fs) (zjM ds) (zd8 hU) (zaQ gs) (zaQ st) (zmq ps) tR t14 t15 t16 m17 rfl rfl rfl m18 rfl rfl m19 rfl rfl (by omega) mR rfl rfl rfl rfl (by omega) tH
end Go.Proofs.YtiacahdabflcdaaGreat.Q
namespace Go.Proofs.YtiacahdabflcdaaGreat.Q
open Go Ovi Go.ChangeShapes Go.WideShapes Go.ChangeAt Go.RowKit
theorem own:ownKnob Tryz.prog.godebug=none:=by kernel_rfl
theorem zil:laidOutB Tryz.prog=true:=by kernel_rfl
def ty3:List (Bool × List Ty):=[(true,[.list [.str,.int .i64,.bool],.list [.int .i64,.list [.int .i64]]]),(false,[.list [.list [.int .i64,.list [.int .i64]],.list [.int .i64,.list [.int .i64]],.bool,.int .i64,.int .i64]]),(false,[.list [.int .i64]])]
theorem tys3:zfJ Tryz.prog Tryz.f3.params.toList=some ty3:=by kernel_rfl
theorem zl3:zdF Tryz.prog Tryz.f3.params.toList=true:=by kernel_rfl
theorem zlU {av:List AV} (h:zdd ty3 av):za1 P hs (C 4000000) (3:FuncId) rs43 4000000 Tryz.f3 (av.map zeX)=some yes:=by
 match av,h with
 | [p0,p1,p2],h =>
  simp only [ty3,zdd,and_true] at h
  obtain ⟨g0,g1,g2⟩:=h
  cases p0<;>simp only [zcO] at g0
  obtain ⟨ds0,rfl,g0⟩:=g0
  obtain ⟨_,_,rfl,e0_0,g0⟩:=Fits.cons g0
  obtain ⟨_,_,rfl,e0_1,g0⟩:=Fits.cons g0
  obtain rfl:=Fits.nil g0
  obtain ⟨_,rfl,e0_0⟩:=e0_0.list (n:=3) rfl
  obtain ⟨_,rfl,e0_1⟩:=e0_1.list (n:=2) rfl
  cases p1<;>simp only [zcO] at g1
  obtain ⟨_,rfl,g1⟩:=g1.list (n:=5) rfl
  cases p2<;>simp only [zcO] at g2
  obtain ⟨_,rfl,g2⟩:=g2.list (n:=1) rfl
  refine Eq.trans ?_ (show bo true=some yes from rfl)
  simpa only [asD,List.map_cons,List.map_nil,zeX,zdc] using zpL (Nat.le_refl _) e0_0 e0_1 g1 g2
set_option maxRecDepth 100000 in
theorem znz (os:Os) (started:os.Started) (H:Type) (enc:TypeId × Value→H) :
  ReturnsInHanded {} Tryz.checked os 3 .any (Rows.fnExactChaseWithOrderSpec.pre6 enc Tryz.prog Tryz.f3 Rows.fnExactChaseWithOrderRow.domain false) (Rows.fnExactChaseWithOrderSpec.post enc Tryz.prog Tryz.f3 false true false false):=by
 refine returnsInHanded_of_change (C:=Tryz.checked) own started (by kernel_rfl) Tryz.func3
  (ChangeSpec.witness6 (enc:=enc) (C:=Tryz.checked) false ⟨#[],#[.agg #[.slice none 0 0,.slice none 0 0],.slice none 0 0,.slice none 0 0],[]⟩ 8 (by kernel_rfl) (by kernel_rfl) (by kernel_rfl) (by kernel_rfl)) ?_
 intro W base args ds gs before hval0 hW hcnd _
 have hval:∀ (j:Nat) t v,Tryz.f3.params[j]? = some t→args[j]? = some v→Value.okWide Tryz.prog W .any base t v:=hval0
 have hW':=hW
 obtain ⟨p,q,hA0,hV,rfl,hfz,hnd⟩:=hW
 have hA:DataW.TrodAll enc Tryz.prog W 0 (fun _=>true) true Tryz.f3.params.toList args.toList ds p:=hA0
 obtain ⟨rfl,rfl⟩:=trodVars_none hV
 obtain ⟨av,hfit,hlen,hac⟩:=zic hA (base:=base) (fun j t v h1 h2=>hval j t v (by simpa using h1) (by simpa using h2)) tys3
 refine (zhp (zcR mixed) (zfI ok) (znc 4000000) (rs:=rs43) (k:=4000000) Tryz.func3 (by kernel_rfl) (zlU hfit) (vs:=args) ⟨by simpa using hlen,fun j a ha=>by
  rw [List.getElem?_map] at ha
  obtain ⟨b,hb,rfl⟩:=Option.map_eq_some_iff.1 ha
  obtain ⟨u,hu,hc⟩:=hac j b hb
  exact ⟨u,by simpa using hu,zkv hc⟩⟩ trivial).mono fun e W' ⟨he,bel⟩=>?_
 subst he
 have hk:=zg5 zil bel zl3 hA
 obtain ⟨d0,d1,d2,rfl⟩:∃ d0 d1 d2,ds=[d0,d1,d2]:=by
  obtain ⟨v0,vs0,d0,ds0,p0,q0,rg0,rfl,rfl,h0,r0⟩:=trodAll_cons hA
  obtain ⟨v1,vs1,d1,ds1,p1,q1,rg1,rfl,rfl,h1,r1⟩:=trodAll_cons r0
  obtain ⟨v2,vs2,d2,ds2,p2,q2,rg2,rfl,rfl,h2,r2⟩:=trodAll_cons r1
  obtain ⟨rfl,rfl,rfl⟩:=trodAll_nil r2
  exact ⟨_,_,_,rfl⟩
 exact ⟨_,rfl,_,_,_,[],_,[],hW',trodAll_mk1 (shut_bool (show Tryz.prog.underlying 4=some .bool by kernel_rfl) _),hk,rfl,bel.frame _,fun h=>by cases h⟩
theorem andI {a b:Bool} (h1:a=true) (h2:b=true):(a&&b)=true:=by rw [h1,h2];rfl
theorem zpq:(Rows.fnExactChaseWithOrderRow.wf (OpenSpec.ofChange Rows.fnExactChaseWithOrderSpec))=true:=by kernel_rfl
theorem zpr:(laidOutB Tryz.prog)=true:=by kernel_rfl
theorem zps:(mapsRowed Tryz.prog)=true:=by kernel_rfl
theorem zpt:(Tryz.f3.params.all (Tryz.prog.readableRec ·))=true:=by kernel_rfl
theorem zpu:(namedTie Tryz.prog Rows.fnExactChaseWithOrderRow.named Rows.fnExactChaseWithOrderSpec.vars)=true:=by kernel_rfl
theorem zpv:((Rows.fnExactChaseWithOrderRow.stops==[]))=true:=by kernel_rfl
theorem zpw:((Tryz.prog.stops==[]))=true:=by kernel_rfl
theorem zpx:((Rows.fnExactChaseWithOrderRow.knobs==[]))=true:=by kernel_rfl
theorem zpy:((Tryz.prog.stopKnobs==[]))=true:=by kernel_rfl
theorem zpz:((Rows.fnExactChaseWithOrderRow.inPlace==Tryz.prog.inPlace 3))=true:=by kernel_rfl
theorem zn4:((Rows.fnExactChaseWithOrderRow.unfollowed==Tryz.prog.unfollowed 3))=true:=by kernel_rfl
theorem zn5:((Rows.fnExactChaseWithOrderRow.recurses==Tryz.prog.recurses 3))=true:=by kernel_rfl
theorem zn6:((Rows.fnExactChaseWithOrderRow.named==Tryz.prog.varsNamed 3))=true:=by kernel_rfl
theorem zn7:((Rows.fnExactChaseWithOrderRow.maps==(Tryz.f3.params.toList++Rows.fnExactChaseWithOrderSpec.plain.varTypes Tryz.prog).any (Tryz.prog.mapsRec ·)))=true:=by kernel_rfl
theorem zn8:((Rows.fnExactChaseWithOrderRow.ifaces==(Tryz.f3.params.toList++Rows.fnExactChaseWithOrderSpec.plain.varTypes Tryz.prog).any (Tryz.prog.ifacesRec ·)))=true:=by kernel_rfl
theorem zn9:((Rows.fnExactChaseWithOrderRow.mapsOut==Tryz.prog.mapsAmong Tryz.f3.resultTypes.toList))=true:=by kernel_rfl
theorem zoa:((Rows.fnExactChaseWithOrderRow.loops==(Tryz.f3.params.toList++Rows.fnExactChaseWithOrderSpec.plain.varTypes Tryz.prog).any (Tryz.prog.loopsFrom ·)))=true:=by kernel_rfl
theorem zob:((Rows.fnExactChaseWithOrderRow.wideKeys==(Tryz.f3.params.toList++Rows.fnExactChaseWithOrderSpec.plain.varTypes Tryz.prog++Tryz.f3.resultTypes.toList).any (Tryz.prog.wideKeysFrom ·)))=true:=by kernel_rfl
theorem zoc:(Rows.fnExactChaseWithOrderSpec.vars.all (Tryz.prog.varReadable ·))=true:=by kernel_rfl
theorem zod:(Tryz.f3.resultTypes.all (fun t=>Tryz.prog.readableRec t&&decide (t < Tryz.prog.types.size)))=true:=by kernel_rfl
theorem zoe:((Rows.fnExactChaseWithOrderRow.ifacesOut==Tryz.f3.resultTypes.toList.any (Tryz.prog.ifacesRec ·)))=true:=by kernel_rfl
theorem zof:((Rows.fnExactChaseWithOrderRow.loopsOut==Tryz.f3.resultTypes.toList.any (Tryz.prog.loopsFrom ·)))=true:=by kernel_rfl
theorem zog:((Rows.fnExactChaseWithOrderRow.plainKeys==Tryz.prog.plainKeys))=true:=by kernel_rfl
theorem zoh:(Rows.fnExactChaseWithOrderRow.shortTexts.isNone)=true:=by kernel_rfl
theorem zoi:(Tryz.prog.stopsHeard)=true:=by kernel_rfl
theorem zoj:(Tryz.prog.mayEnter)=true:=by kernel_rfl
theorem zok:((Rows.fnExactChaseWithOrderRow.lifted==Tryz.prog.liftsFinal))=true:=by kernel_rfl
theorem zol:((Tryz.prog.make==some Rows.fnExactChaseWithOrderRow.make))=true:=by kernel_rfl
theorem zom:((Rows.fnExactChaseWithOrderRow.pinned==Rows.fnExactChaseWithOrderRow.pinnedBy))=true:=by kernel_rfl
theorem zon:((Rows.fnExactChaseWithOrderRow.veiled==(Tryz.f3.params.toList++Rows.fnExactChaseWithOrderSpec.plain.varTypes Tryz.prog++Tryz.f3.resultTypes.toList).any (Tryz.prog.veiledRec ·)))=true:=by kernel_rfl
theorem zoo:(Rows.fnExactChaseWithOrderRow.veiledFits Tryz.prog Tryz.f3.params.toList (Tryz.f3.params.toList++Rows.fnExactChaseWithOrderSpec.plain.varTypes Tryz.prog++Tryz.f3.resultTypes.toList))=true:=by kernel_rfl
theorem znr:joinedFacts Tryz.prog 3 Tryz.f3 Rows.fnExactChaseWithOrderSpec Rows.fnExactChaseWithOrderRow=true:=by
 unfold joinedFacts
 refine (andI (andI (andI (andI (andI (andI (andI (andI (andI (andI (andI (andI (andI (andI (andI (andI (andI (andI (andI (andI (andI (andI (andI (andI (andI (andI (andI (andI (andI (andI (andI zpq zpr) zps) zpt) zpu) zpv) zpw) zpx) zpy) zpz) zn4) zn5) zn6) zn7) zn8) zn9) zoa) zob) zoc) zod) zoe) zof) zog) zoh) zoi) zoj) zok) zol) ?_) zom) zon) zoo)
 kernel_rfl
theorem over3:Rows.fnExactChaseWithOrderRow.holds Tryz.pinned (OpenSpec.ofChange Rows.fnExactChaseWithOrderSpec) :=
 OpenClaim.holds_of_wide 3 Tryz.f3 rfl rfl rfl rfl rfl rfl rfl ⟨rfl,rfl,rfl,rfl,rfl⟩ rfl rfl rfl rfl rfl (by kernel_rfl) Tryz.func3 znr
  (of_decide_eq_true (by kernel_rfl)) (by unfold Func.isWrapper;first | (rw [if_pos (by decide +kernel)];kernel_rfl) | (rw [if_neg (by decide +kernel)];exact ⟨rfl,rfl⟩))
  (fun os started H enc _=>znz os started H enc)
end Go.Proofs.YtiacahdabflcdaaGreat.Q
namespace Go.Proofs.YtiacahdabflcdaaGreat
theorem fnExactChaseWithOrder_holds:Rows.FnExactChaseWithOrderSaid:=Q.over3
#print axioms fnExactChaseWithOrder_holds
end Go.Proofs.YtiacahdabflcdaaGreat

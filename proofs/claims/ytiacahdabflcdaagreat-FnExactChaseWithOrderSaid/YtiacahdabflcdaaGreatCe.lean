/-
Towards the law: a machine that runs the program's own code on plain data, its soundness, the library by its contracts, and what the functions compute: part 5. No condition.
-/
import Derived.Test.YtiacahdabflcdaaGreatCd
import Derived.Test.YtiacahdabflcdaaGreatProg
import Derived.Test.YtiacahdabflcdaaGreatCc
import Derived.Shelf.RegionOpenPlain
import Derived.Deep.LoopGhost
import Derived.WalkKit
import Derived.KernelRfl
set_option linter.unusedVariables false
set_option linter.unusedSimpArgs false
namespace Go.Proofs.YtiacahdabflcdaaGreat.Q
open Go Ovi
variable {k:Nat}
def cmpI:List Int→List Int→Int
 | [],[]=>0
 | [],_::_ => -1
 | _::_,[]=>1
 | x::xs,y::ys=>if x < y then -1 else if x > y then 1 else cmpI xs ys
def io (n:Int):Option Res:=some [(false,[.d (.int .i64 n)])]
theorem iB' (n:Int) (f:Int→Option Res):(zb (io n) fun r=>zg (resI .i64 1 false 1 r 0 0) f)=f n:=rfl
def cmp1 (x y:Int):Int:=if x < y then -1 else if x > y then 1 else 0
theorem c133 (x y:Int):C (k+2) 133 [.d (.int .i64 x),.d (.int .i64 y)]=io (cmp1 x y):=by
 rw [F133.run,F175.run,F175.run]
 simp only [bne_self_eq_false,zl,zK,zu]
 rw [ite'_f rfl,ite'_f rfl]
 unfold cmp1
 by_cases h:x < y
 ·rw [ite'_t (by simpa using h),if_pos h];rfl
 ·rw [ite'_f (by simpa using h),if_neg h]
  by_cases h':x > y
  ·rw [ite'_t (by simpa using h'),if_pos h'];rfl
  ·rw [ite'_f (by simpa using h'),if_neg h'];rfl
theorem ziA {a b:List Int} {i:Nat} (ha:i < a.length) (hb:i < b.length):cmpI (a.drop i) (b.drop i)=if a[i] < b[i] then -1 else if a[i] > b[i] then 1 else cmpI (a.drop (i+1)) (b.drop (i+1)):=by
 rw [List.drop_eq_getElem_cons ha,List.drop_eq_getElem_cons hb]
 rfl
theorem c112 (a b:List Int) (hk:a.length < k) (ha:a.length≤maxLen):C (k+3) 112 [.d (.list 1 (I1 a)),.d (.list 1 (I1 b))]=io (cmpI a b):=by
 rw [F112.run,zn]
 have main:∀ (m i n:Nat),i+m=a.length→m < n→i≤b.length→F112.L2 (k+2) (C (k+2)) n (I1 a) (I1 b) (I1 a) (a.length:Int) (i:Int)=io (cmpI (a.drop i) (b.drop i)):=by
  intro m
  induction m with
  | zero =>
   intro i n hm hn hb
   obtain ⟨n,rfl⟩:∃ j,n=j+1:=⟨n - 1,by omega⟩
   obtain rfl:i=a.length:=by omega
   rw [F112.L2.succ,ite'_f (lt_f (by omega)),zn,zn,List.drop_eq_nil_of_le (Nat.le_refl _)]
   by_cases h:a.length < b.length
   ·rw [ite'_t (lt_t h),List.drop_eq_getElem_cons h];rfl
   ·rw [ite'_f (lt_f h),List.drop_eq_nil_of_le (by omega)];rfl
  | succ m ih =>
   intro i n hm hn hb
   obtain ⟨n,rfl⟩:∃ j,n=j+1:=⟨n - 1,by omega⟩
   have hi:i < a.length:=by omega
   have hx:=List.getElem?_eq_getElem hi
   rw [F112.L2.succ,ite'_t (lt_t hi),zn,ite'_t (zo hi)]
   simp only [Int.toNat_natCast,zF (I1_get' hx),List.getElem?_cons_zero,Option.bind_some,zz,zd]
   rw [zn]
   by_cases h:i < b.length
   ·have hy:=List.getElem?_eq_getElem h
    rw [ite'_f (b:=decide ((i:Int) ≥ (b.length:Int))) (by simp;omega),ite'_t (zo h)]
    simp only [zF (I1_get' hy),List.getElem?_cons_zero,Option.bind_some,zz,zd]
    rw [c133,iB',ziA hi h,zE hi ha,ih (i+1) n (by omega) (by omega) (by omega)]
    unfold cmp1
    by_cases h1:a[i] < b[i]
    ·rw [if_pos h1,if_pos h1];rfl
    ·rw [if_neg h1,if_neg h1]
     by_cases h2:a[i] > b[i]
     ·rw [if_pos h2,if_pos h2];rfl
     ·rw [if_neg h2,if_neg h2];rfl
   ·rw [ite'_t (b:=decide ((i:Int) ≥ (b.length:Int))) (by simp;omega),List.drop_eq_getElem_cons hi,show b.drop i=[] from List.drop_eq_nil_of_le (by omega)]
    rfl
 exact main a.length 0 (k+2) (by omega) (by omega) (by omega)
theorem c103 (a b:List Int) (hk:a.length < k) (ha:a.length≤maxLen):C (k+1) 103 [.d (.list 1 (I1 a)),.d (.list 1 (I1 b))]=io (cmpI a b):=by
 rw [F103.run]
 have fin:∀ (i n:Nat),i≤a.length→i≤b.length→(¬ i < a.length∨¬ i < b.length)→F103.L2 k (C k) (n+1) (I1 a) (I1 b) (i:Int)=io (cmpI (a.drop i) (b.drop i)):=by
  intro i n h1 h2 h3
  have e:F103.L2 k (C k) (n+1) (I1 a) (I1 b) (i:Int)=ite' (decide ((a.length:Int) < (b.length:Int))) (io (-1)) (ite' (decide ((a.length:Int) > (b.length:Int))) (io 1) (io 0)):=by
   rw [F103.L2.succ,zn,zn]
   by_cases hi:i < a.length
   ·rw [ite'_t (lt_t hi),ite'_f (lt_f (by omega))];rfl
   ·rw [ite'_f (lt_f hi)];rfl
  rw [e]
  rcases Nat.lt_trichotomy a.length b.length with h | h | h
  ·obtain rfl:i=a.length:=by omega
   rw [ite'_t (by simp;omega),List.drop_eq_nil_of_le (Nat.le_refl _),List.drop_eq_getElem_cons h]
   rfl
  ·rw [ite'_f (by simp;omega),ite'_f (by simp;omega),List.drop_eq_nil_of_le (by omega),List.drop_eq_nil_of_le (by omega)]
   rfl
  ·obtain rfl:i=b.length:=by omega
   rw [ite'_f (by simp;omega),ite'_t (by simp;omega),List.drop_eq_nil_of_le (Nat.le_refl _),List.drop_eq_getElem_cons h]
   rfl
 have main:∀ (m i n:Nat),i+m=a.length→m < n→i≤b.length→F103.L2 k (C k) n (I1 a) (I1 b) (i:Int)=io (cmpI (a.drop i) (b.drop i)):=by
  intro m
  induction m with
  | zero =>
   intro i n hm hn hb
   obtain ⟨n,rfl⟩:∃ j,n=j+1:=⟨n - 1,by omega⟩
   exact fin i n (by omega) hb (by omega)
  | succ m ih =>
   intro i n hm hn hb
   obtain ⟨n,rfl⟩:∃ j,n=j+1:=⟨n - 1,by omega⟩
   by_cases h:i < b.length
   ·have hi:i < a.length:=by omega
    have hx:=List.getElem?_eq_getElem hi
    have hy:=List.getElem?_eq_getElem h
    rw [F103.L2.succ,zn,zn,ite'_t (lt_t hi),ite'_t (lt_t h),ite'_t (zo hi)]
    simp only [Int.toNat_natCast,zF (I1_get' hx),zF (I1_get' hy),List.getElem?_cons_zero,Option.bind_some,zz,zd]
    rw [ite'_t (zo h),ite'_t (zo hi),ite'_t (zo h),zE hi ha,ih (i+1) n (by omega) (by omega) (by omega),ziA hi h]
    by_cases h1:a[i] < b[i]
    ·rw [ite'_t (by simpa using h1),if_pos h1];rfl
    ·rw [ite'_f (by simpa using h1),if_neg h1]
     by_cases h2:a[i] > b[i]
     ·rw [ite'_t (by simpa using h2),if_pos h2];rfl
     ·rw [ite'_f (by simpa using h2),if_neg h2]
   ·exact fin i n (by omega) hb (by omega)
 exact main a.length 0 k (by omega) hk (by omega)
def cmpF (x y:Atom):Int:=if x.1 < y.1 then -1 else if x.1 > y.1 then 1 else cmpI x.2 y.2
theorem c105 (x y:Atom) (hk:x.2.length < k) (ha:x.2.length≤maxLen):C (k+2) 105 [.agg [.d (.int .i64 x.1),.d (.list 1 (I1 x.2))],.agg [.d (.int .i64 y.1),.d (.list 1 (I1 y.2))]]=io (cmpF x y):=by
 rw [F105.run,c103 x.2 y.2 hk ha,iB']
 unfold cmpF
 by_cases h1:x.1 < y.1
 ·rw [ite'_t (by simpa using h1),if_pos h1];rfl
 ·rw [ite'_f (by simpa using h1),if_neg h1]
  by_cases h2:x.1 > y.1
  ·rw [ite'_t (by simpa using h2),if_pos h2];rfl
  ·rw [ite'_f (by simpa using h2),if_neg h2];rfl
theorem c132 (x y:Int):C (k+4) 132 [.d (.list 1 [[.int .i64 x],[.int .i64 y]])]=io (if x=0 then y else x):=by
 rw [F132.run]
 have s0:∀ n,F132.L3 (k+3) (C (k+3)) (n+1) 0 [[.int .i64 x],[.int .i64 y]] 2 0=ite' (x != 0) (io x) (F132.L3 (k+3) (C (k+3)) n 0 [[.int .i64 x],[.int .i64 y]] 2 1):=fun n=>by rw [F132.L3.succ];rfl
 have s1:∀ n,F132.L3 (k+3) (C (k+3)) (n+1) 0 [[.int .i64 x],[.int .i64 y]] 2 1=ite' (y != 0) (io y) (F132.L3 (k+3) (C (k+3)) n 0 [[.int .i64 x],[.int .i64 y]] 2 2):=fun n=>by rw [F132.L3.succ];rfl
 have s2:∀ n,F132.L3 (k+3) (C (k+3)) (n+1) 0 [[.int .i64 x],[.int .i64 y]] 2 2=io 0:=fun n=>by rw [F132.L3.succ];rfl
 show F132.L3 (k+3) (C (k+3)) (k+2+1) 0 [[.int .i64 x],[.int .i64 y]] 2 0=_
 rw [s0,s1,s2]
 by_cases h:x=0
 ·rw [if_pos h,ite'_f (by simpa using h)]
  by_cases h':y=0
  ·rw [ite'_f (by simpa using h'),h']
  ·rw [ite'_t (by simpa using h')]
 ·rw [if_neg h,ite'_t (by simpa using h)]
theorem c77 (x y:Atom) (hk:x.2.length < k) (ha:x.2.length≤maxLen):C (k+5) 77 [.agg [.d (.int .i64 x.1),.d (.list 1 (I1 x.2))],.agg [.d (.int .i64 y.1),.d (.list 1 (I1 y.2))]]=io (cmpF x y):=by
 rw [F77.run,c133,iB',c112 (k:=k+1) x.2 y.2 (by omega) ha,iB',c132,iB']
 unfold cmpF cmp1
 by_cases h1:x.1 < y.1
 ·rw [if_pos h1,if_pos h1];rfl
 ·rw [if_neg h1,if_neg h1]
  by_cases h2:x.1 > y.1
  ·rw [if_pos h2,if_pos h2];rfl
  ·rw [if_neg h2,if_neg h2];rfl
def zkY (a:Ovi.Rows) (x:Atom) (b:Bool):Prop:=(b=true→(0≤x.1∧x.1 < (a.length:Int))∧(x.2.length:Int)=ar a x.1)∧∀ k,a.length < k→x.2.length < k→C (k+6) 76 [.d (.list 3 a),.agg [.d (.int .i64 x.1),.d (.list 1 (I1 x.2))]]=bo b∧C (k+6) 104 [.d (.list 3 a),.agg [.d (.int .i64 x.1),.d (.list 1 (I1 x.2))]]=bo b
theorem zpo {a:Ovi.Rows} (ha:Fit Rl (.list 3 a)) (x:Atom) (hI:∀ z∈x.2,inI z) (hx2:x.2.length≤maxLen):∃ b,zkY a x b:=by
 have hlen:=ha.len
 unfold maxLen at hlen
 obtain ⟨b,hb⟩:=rels ha
 have e:∀ k,a.length < k→C (k+5) 75 [.d (.list 3 a)]=bo b∧C (k+5) 107 [.d (.list 3 a)]=bo b:=fun k hk=>hb (k+2) (by omega)
 cases b with
 | false =>
  refine ⟨false,fun h=>(by cases h),fun k hk hx=>?_⟩
  rw [F76.run,F104.run,(e k hk).1,(e k hk).2,bB,bB]
  exact ⟨rfl,rfl⟩
 | true =>
  by_cases hr:0≤x.1∧x.1≤(a.length:Int) - 1
  ·obtain ⟨i,hi⟩:∃ i:Nat,x.1=i:=⟨x.1.toNat,by omega⟩
   have hia:i < a.length:=by omega
   obtain ⟨row,hrow,hfr,_⟩:=ha.row hia
   obtain ⟨d0,r0,rfl,f0,h1⟩:=Fits.cons hfr
   obtain ⟨d1,r1,rfl,f1,h1⟩:=Fits.cons h1
   obtain ⟨n,rfl,_⟩:=f1.int
   have hcn:zm .i64 a ((i:Int)).toNat 1=some n:=by rw [Int.toNat_natCast,zF hrow];simp [zz]
   by_cases hn:((I1 x.2).length:Int)=n
   ·refine ⟨!(x.2.any fun t=>!okV t),fun _=>⟨by omega,by unfold ar;rw [hi,hcn];rw [zn] at hn;exact hn⟩,fun k hk hx=>?_⟩
    rw [F76.run,F104.run,(e k hk).1,(e k hk).2,bB,bB,ite'_nt,ite'_nt,c128,c157,bB,bB,zac (by omega) (by omega),decide_eq_true hr,ite'_nt,ite'_nt,hi,ite'_t (zo hia),ite'_t (zo hia),hcn]
    simp only [zd]
    rw [ite'_f (by simpa using hn),ite'_f (b:=((I1 x.2).length:Int) != n) (by simpa using hn)]
    have e69:=c129 (k:=k+3) x.2 130 [] (fun t=>!okV t) (by omega) hx2 (fun z _=>by
     rw [List.map_nil,F130.run,c131,bB];rfl)
    rw [e69,bB]
    refine ⟨rfl,?_⟩
    have:=zbE (xs:=x.2) (L:=fun m j=>F104.L4 (k+5) (C (k+5)) m j (i:Int) (I1 x.2)) (stop:=fun t=>!okV t) (hit:=bo false) (fin:=bo true)
     (fun m j t ht=>by
      have hj:=(List.getElem?_eq_some_iff.1 ht).1
      rw [F104.L4.succ,zn,ite'_t (lt_t hj),ite'_t (zo hj)]
      simp only [Int.toNat_natCast,zF (I1_get' ht),List.getElem?_cons_zero,Option.bind_some,zz,zd]
      rw [c159 (hI t (List.mem_of_getElem? ht)),bB,zE hj hx2];rfl)
     (fun m=>by rw [F104.L4.succ,zn,ite'_f (lt_f (by omega))];rfl) (k+5) (by omega)
    rw [show F104.L4 (k+5) (C (k+5)) (k+5) 0 (i:Int) (I1 x.2)=_ from this]
    cases x.2.any (fun t=>!okV t)<;>rfl
   ·refine ⟨false,fun h=>(by cases h),fun k hk hx=>?_⟩
    rw [F76.run,F104.run,(e k hk).1,(e k hk).2,bB,bB,ite'_nt,ite'_nt,c128,c157,bB,bB,zac (by omega) (by omega),decide_eq_true hr,ite'_nt,ite'_nt,hi,ite'_t (zo hia),ite'_t (zo hia),hcn]
    simp only [zd]
    rw [ite'_t (by simpa using hn),ite'_t (b:=((I1 x.2).length:Int) != n) (by simpa using hn)]
    exact ⟨rfl,rfl⟩
  ·refine ⟨false,fun h=>(by cases h),fun k hk hx=>?_⟩
   rw [F76.run,F104.run,(e k hk).1,(e k hk).2,bB,bB,ite'_nt,ite'_nt,c128,c157,bB,bB,zac (by omega) (by omega),decide_eq_false hr]
   exact ⟨rfl,rfl⟩
def src (a:Ovi.Rows) (x:Atom):Bool:=match a[x.1.toNat]? with
 | some [_,_,.bool b]=>b
 | _=>false
theorem zhf {a:Ovi.Rows} (ha:Fit Rl (.list 3 a)) {x:Atom} (h:0≤x.1∧x.1 < (a.length:Int)):inR x.1 a.length=true∧zan a x.1.toNat 2=some (src a x):=by
 obtain ⟨i,hi⟩:∃ i:Nat,x.1=i:=⟨x.1.toNat,by omega⟩
 have hia:i < a.length:=by omega
 obtain ⟨row,hrow,hfr,_⟩:=ha.row hia
 obtain ⟨d0,r0,rfl,f0,h1⟩:=Fits.cons hfr
 obtain ⟨d1,r1,rfl,f1,h1⟩:=Fits.cons h1
 obtain ⟨d2,r2,rfl,f2,h1⟩:=Fits.cons h1
 obtain rfl:=Fits.nil h1
 obtain ⟨b,rfl⟩:=f2.bool
 rw [hi]
 refine ⟨zo hia,?_⟩
 rw [Int.toNat_natCast,zau hrow]
 unfold src
 rw [hi,Int.toNat_natCast,hrow]
 rfl
theorem zn3 {a:Ovi.Rows} (ha:Fit Rl (.list 3 a)) (xs:List Atom) (hI:∀ x∈xs,∀ z∈x.2,inI z) (hs:zD xs+xs.length≤1048576) (hal:a.length≤1048576):∃ b,(b=true→(xs.length≤30∧∀ x∈xs,(0≤x.1∧x.1 < (a.length:Int))∧(x.2.length:Int)=ar a x.1)∧(∀ x∈xs,x.2.length≤3)∧(∀ (i:Nat) x y,xs[i]? = some x→xs[i+1]? = some y→cmpF x y < 0)∧∀ r:Int,0≤r→r < (a.length:Int)→ar a r≤3)∧∀ k,2000000≤k→C (k+8) 40 [.agg [.d (.list 3 a),.d (.list 2 (A1 xs))]]=bo b∧C (k+8) 58 [.agg [.d (.list 3 a),.d (.list 2 (A1 xs))]]=bo b:=by
 have hmax:(1048576:Nat)≤maxLen:=by decide
 have hl:∀ x∈xs,x.2.length≤1048576:=fun x hx=>by have:=zah hx;omega
 obtain ⟨vf,hvf⟩:∃ vf:Atom→Bool,∀ x∈xs,zkY a x (vf x):=by
  have:∀ x:Atom,∃ b,x∈xs→zkY a x b:=by
   intro x
   by_cases h:x∈xs
   ·obtain ⟨b,hb⟩:=zpo ha x (hI x h) (by have:=hl x h;omega)
    exact ⟨b,fun _=>hb⟩
   ·exact ⟨false,fun h'=>absurd h' h⟩
  obtain ⟨vf,hv⟩:=Classical.axiomOfChoice this
  exact ⟨vf,fun x hx=>hv x hx⟩
 obtain ⟨rb,hr3,hrb⟩:=zna ha
 let bad:Nat→Atom→Bool:=fun i x=>!vf x||((decide (i > 0)&&decide (cmpF (xs.getD (i - 1) x) x ≥ 0))||(src a x&&decide ((zal x.2).length > 0)))
 have key:∃ st:Bool,(st=false→(∀ x∈xs,vf x=true)∧∀ (i:Nat) x y,xs[i]? = some x→xs[i+1]? = some y→cmpF x y < 0)∧∀ k,2000000≤k→F40.L4 (k+7) (C (k+7)) (k+7) (A1 xs) (xs.length:Int) 0 a (A1 xs)=bo (!st)∧F58.L2 (k+7) (C (k+7)) (k+7) 0 a (A1 xs)=cond st (bo false) (bo (rb&&decide ((xs.length:Int)≤30))):=by
  have s78:∀ k,2000000≤k→∀ (n i:Nat) x,xs[i]? = some x→F40.L4 (k+7) (C (k+7)) (n+1) (A1 xs) (xs.length:Int) (i:Int) a (A1 xs)=cond (bad i x) (bo false) (F40.L4 (k+7) (C (k+7)) n (A1 xs) (xs.length:Int) ((i+1:Nat):Int) a (A1 xs)) ∧
    F58.L2 (k+7) (C (k+7)) (n+1) (i:Int) a (A1 xs)=cond (bad i x) (bo false) (F58.L2 (k+7) (C (k+7)) n ((i+1:Nat):Int) a (A1 xs)):=by
   intro k hk n i x hx
   have hi:=(List.getElem?_eq_some_iff.1 hx).1
   have hxm:=List.mem_of_getElem? hx
   have hxl:=hl x hxm
   obtain ⟨hv1,hv2⟩:=hvf x hxm
   obtain ⟨e1,e2⟩:=hv2 (k+1) (by omega) (by omega)
   have hc0:zm .i64 (A1 xs) (i:Int).toNat 0=some x.1:=by rw [Int.toNat_natCast,zF (zaG hx)];simp [zz]
   have hc1:zw 1 (A1 xs) (i:Int).toNat 1=some (I1 x.2):=by rw [Int.toNat_natCast,zab (zaG hx)];simp [zN]
   rw [F40.L4.succ,F58.L2.succ,zq,ite'_t (lt_t hi),ite'_t (zo hi),ite'_t (lt_t hi),ite'_t (zo hi),hc0,hc1]
   simp only [zd,zh]
   rw [e1,e2,bB,bB,zE hi (m:=xs.length) (by omega)]
   cases hvx:vf x with
   | false =>
    have hb:bad i x=true:=by simp [bad,hvx]
    rw [hb]
    exact ⟨rfl,rfl⟩
   | true =>
    obtain ⟨g1,g2⟩:=zhf ha (hv1 hvx).1
    have tail:∀ (X Y:Option Res) (nu:Bool),nu=decide ((zal x.2).length > 0)→True:=fun _ _ _ _=>trivial
    have n126:=c78 (k:=k+3) x.1 x.2 (hI x hxm) (by omega) hxl
    have n75:=c106 (k:=k+4) x.1 x.2 (hI x hxm) (by omega) hxl
    rw [ite'_nt,ite'_nt,g1,g2,n126,n75]
    simp only [zu,zl,zy,zcu,zh,zn]
    have hnu:decide (((zal x.2).length:Int) > 0)=decide ((zal x.2).length > 0):=by
     rw [Bool.eq_iff_iff];simp only [decide_eq_true_eq];omega
    rw [hnu]
    by_cases h0:i=0
    ·subst h0
     have hb:bad 0 x=(src a x&&decide ((zal x.2).length > 0)):=by simp [bad,hvx]
     rw [hb]
     cases src a x<;>cases decide ((zal x.2).length > 0)<;>exact ⟨rfl,rfl⟩
    ·have hw:IntKind.i64.wrap ((i:Int) - 1)=((i - 1:Nat):Int):=by rw [zac (by omega) (by omega)];omega
     have hy:xs[i - 1]? = some xs[i - 1]:=List.getElem?_eq_getElem (by omega)
     have hyl:=hl _ (List.mem_of_getElem? hy)
     have hd0:zm .i64 (A1 xs) ((i - 1:Nat):Int).toNat 0=some (xs[i - 1]).1:=by rw [Int.toNat_natCast,zF (zaG hy)];simp [zz]
     have hd1:zw 1 (A1 xs) ((i - 1:Nat):Int).toNat 1=some (I1 (xs[i - 1]).2):=by rw [Int.toNat_natCast,zab (zaG hy)];simp [zN]
     have hgt:decide ((i:Int) > 0)=true:=by simp;omega
     rw [hgt,hw,hd0,hd1]
     simp only [zd,zh]
     rw [c77 (k:=k+2) xs[i - 1] x (by omega) (by omega),c105 (k:=k+5) xs[i - 1] x (by omega) (by omega),iB',iB',zo (i:=i - 1) (by omega)]
     have hb:bad i x=(decide (cmpF xs[i - 1] x ≥ 0)||(src a x&&decide ((zal x.2).length > 0))):=by
      simp [bad,hvx,List.getD_eq_getElem?_getD,hy,show i > 0 by omega]
     rw [hb]
     cases decide (cmpF xs[i - 1] x ≥ 0)<;>cases src a x<;>cases decide ((zal x.2).length > 0)<;>exact ⟨rfl,rfl⟩
  have d78:∀ k n,F40.L4 (k+7) (C (k+7)) (n+1) (A1 xs) (xs.length:Int) (xs.length:Int) a (A1 xs)=bo true:=fun k n=>by rw [F40.L4.succ,ite'_f (lt_f (by omega))];rfl
  have d74:∀ k,2000000≤k→∀ n,F58.L2 (k+7) (C (k+7)) (n+1) (xs.length:Int) a (A1 xs)=bo (rb&&decide ((xs.length:Int)≤30)):=fun k hk n=>by
   rw [F58.L2.succ,zq,ite'_f (lt_f (by omega)),(hrb (k+4) (by omega)).2,bB]
   cases rb<;>rfl
  by_cases hall:∀ (i:Nat) x,xs[i]? = some x→bad i x=false
  ·refine ⟨false,fun _=>⟨fun x hx=>?_,fun i x y hx hy=>?_⟩,fun k hk=>?_⟩
   ·obtain ⟨i,hi⟩:=List.mem_iff_getElem?.1 hx
    have:=hall i x hi
    simp only [bad,Bool.or_eq_false_iff,Bool.not_eq_false'] at this
    exact this.1
   ·have:=hall (i+1) y hy
    simp only [bad,Bool.or_eq_false_iff,Bool.and_eq_false_iff,decide_eq_false_iff_not] at this
    have h2:=this.2.1
    rw [Nat.add_sub_cancel,List.getD_eq_getElem?_getD,hx] at h2
    simp only [Option.getD_some] at h2
    omega
   ·constructor
    ·rcases zas (L:=fun n i=>F40.L4 (k+7) (C (k+7)) n (A1 xs) (xs.length:Int) i a (A1 xs)) (stop:=bad) (hit:=fun _=>bo false) (fin:=bo true) (fun n i x hx=>(s78 k hk n i x hx).1) (d78 k) (k+7) (by omega) with ⟨i,x,hx,hst,_⟩ | ⟨_,h⟩
     ·rw [hall i x hx] at hst;cases hst
     ·exact h
    ·rcases zas (L:=fun n i=>F58.L2 (k+7) (C (k+7)) n i a (A1 xs)) (stop:=bad) (hit:=fun _=>bo false) (fun n i x hx=>(s78 k hk n i x hx).2) (d74 k hk) (k+7) (by omega) with ⟨i,x,hx,hst,_⟩ | ⟨_,h⟩
     ·rw [hall i x hx] at hst;cases hst
     ·exact h
  ·refine ⟨true,⟨fun h=>(by cases h),fun k hk=>?_⟩⟩
   constructor
   ·rcases zas (L:=fun n i=>F40.L4 (k+7) (C (k+7)) n (A1 xs) (xs.length:Int) i a (A1 xs)) (stop:=bad) (hit:=fun _=>bo false) (fin:=bo true) (fun n i x hx=>(s78 k hk n i x hx).1) (d78 k) (k+7) (by omega) with ⟨i,x,hx,hst,h⟩ | ⟨h,_⟩
    ·exact h
    ·exact absurd h hall
   ·rcases zas (L:=fun n i=>F58.L2 (k+7) (C (k+7)) n i a (A1 xs)) (stop:=bad) (hit:=fun _=>bo false) (fun n i x hx=>(s78 k hk n i x hx).2) (d74 k hk) (k+7) (by omega) with ⟨i,x,hx,hst,h⟩ | ⟨h,_⟩
    ·exact h
    ·exact absurd h hall
 obtain ⟨st,hst,hk2⟩:=key
 refine ⟨rb&&(decide ((xs.length:Int)≤30)&&!st),fun h=>?_,fun k hk=>?_⟩
 ·simp only [Bool.and_eq_true,decide_eq_true_eq,Bool.not_eq_true'] at h
  refine ⟨⟨by omega,fun x hx=>(hvf x hx).1 ((hst h.2.2).1 x hx)⟩,fun x hx=>?_,(hst h.2.2).2,hr3 h.1⟩
  obtain ⟨g1,g2⟩:=(hvf x hx).1 ((hst h.2.2).1 x hx)
  have:=hr3 h.1 x.1 g1.1 g1.2
  omega
 ·obtain ⟨e1,e2⟩:=hk2 k hk
  constructor
  ·rw [F40.run,(hrb (k+4) (by omega)).1,bB,zq,e1]
   cases rb with
   | false=>rfl
   | true =>
    rw [ite'_nt]
    by_cases h30:(xs.length:Int)≤30
    ·rw [ite'_f (by simp;omega),decide_eq_true h30];rfl
    ·rw [ite'_t (by simp;omega),decide_eq_false h30];rfl
  ·rw [F58.run,e2]
   cases st<;>cases rb<;>cases decide ((xs.length:Int)≤30)<;>rfl
def vals (xs:List Atom):List Int:=xs.flatMap fun x=>x.2
theorem zhg (xs:List Atom):(vals xs).length=zD xs:=by simp [vals,zD,List.length_flatMap]
theorem zo0 {xs:List Atom} (hI:∀ x∈xs,∀ z∈x.2,inI z):∀ z∈vals xs,inI z:=by
 intro z hz
 obtain ⟨x,hx,h⟩:=List.mem_flatMap.1 hz
 exact hI x hx z h
end Go.Proofs.YtiacahdabflcdaaGreat.Q
namespace Go.Proofs.YtiacahdabflcdaaGreat.Q
open Go Ovi
variable {k:Nat}
theorem I1_c {zs:List Int} {i:Nat} {z:Int} (h:zs[i]? = some z):zm .i64 (I1 zs) (i:Int).toNat 0=some z:=by rw [Int.toNat_natCast,zF (I1_get' h)];simp [zz]
theorem zcv {M:List Int} {i:Nat} (z:Int) (h:i < M.length):zai (I1 M) i 0 [.int .i64 z]=I1 (M.set i z):=by
 have:(I1 M).getD i []=[.int .i64 M[i]]:=by simp [I1,List.getD,h]
 unfold zai
 rw [this]
 simp [I1,List.map_set]
theorem LL_get' {l:BL} {i:Nat} {zs:List Int} (h:l[i]? = some zs):(LL l)[i]? = some [.list 1 (I1 zs)]:=by simp [LL,h]
theorem LL_c {l:BL} {i:Nat} {zs:List Int} (h:l[i]? = some zs):zw 1 (LL l) (i:Int).toNat 0=some (I1 zs):=by rw [Int.toNat_natCast,zab (LL_get' h)];simp [zN]
theorem zf2 (l:BL) (b:List Int):LL l++[[D.list 1 (I1 b)]]=LL (l++[b]):=by simp [LL]
theorem znU (l l':BL):LL l++LL l'=LL (l++l'):=by simp [LL]
theorem zcd (l:List Int) (z:Int):I1 l++[[D.int .i64 z]]=I1 (l++[z]):=by simp [I1]
theorem zaU {xs:List Atom} {i:Nat} {x:Atom} (h:xs[i]? = some x):zm .i64 (A1 xs) (i:Int).toNat 0=some x.1:=by rw [Int.toNat_natCast,zF (zaG h)];simp [zz]
theorem zaV {xs:List Atom} {i:Nat} {x:Atom} (h:xs[i]? = some x):zw 1 (A1 xs) (i:Int).toNat 1=some (I1 x.2):=by rw [Int.toNat_natCast,zab (zaG h)];simp [zN]
theorem zjR (vs b:List Int):fitS [] vs b=some b:=by simp [fitS]
def okT (ts:List Int):Prop:=∀ t∈ts, -10≤t∧t≤4
def fitR:Option (List Int)→Option Res
 | some b=>some [(false,[.row 3 1 (I1 b)]),(false,[.d (.bool true)])]
 | none=>some [(false,[.nil]),(false,[.d (.bool false)])]
theorem l209 (ts vs:List Int) (r:Int) (hT:okT ts) (hl:vs.length=ts.length) (h5:ts.length≤1048576) (K:Nat) (cf:zi):∀ (m i n:Nat) (b:List Int),i+m=ts.length→m < n→b.length=5 →
  F209.L5 K cf n (I1 ts) (ts.length:Int) (i:Int) r (I1 vs) (I1 b)=fitR (fitS (ts.drop i) (vs.drop i) b):=by
 have hmax:(1048576:Nat)≤maxLen:=by decide
 intro m
 induction m with
 | zero =>
  intro i n b hm hn hb
  obtain ⟨n,rfl⟩:∃ j,n=j+1:=⟨n - 1,by omega⟩
  obtain rfl:i=ts.length:=by omega
  rw [F209.L5.succ,ite'_f (lt_f (by omega)),List.drop_length,zjR]
  rfl
 | succ m ih =>
  intro i n b hm hn hb
  obtain ⟨n,rfl⟩:∃ j,n=j+1:=⟨n - 1,by omega⟩
  have hi:i < ts.length:=by omega
  have hiv:i < vs.length:=by omega
  have hx:=List.getElem?_eq_getElem hi
  have hy:=List.getElem?_eq_getElem hiv
  obtain ⟨h1,h2⟩:=hT _ (List.getElem_mem hi)
  rw [F209.L5.succ,ite'_t (lt_t hi),zn,ite'_t (zo hi),I1_c hx,zd,zn,ite'_t (zo hiv),I1_c hy,zd,zE hi (m:=ts.length) (by omega),List.drop_eq_getElem_cons hi,List.drop_eq_getElem_cons hiv,fitS,zac (by omega) (by omega)]
  by_cases hneg:ts[i] < 0
  ·rw [ite'_t (by simpa using hneg),if_pos hneg]
   by_cases he:vs[i] = -1 - ts[i]
   ·rw [ite'_f (by simpa using he),if_pos he]
    exact ih (i+1) n b (by omega) (by omega) hb
   ·rw [ite'_t (by simpa using he),if_neg he];rfl
  ·obtain ⟨q,hq⟩:∃ q:Nat,ts[i]=(q:Int):=⟨ts[i].toNat,by omega⟩
   have hq5:q < b.length:=by omega
   have hbq:b[q]? = some (b.getD q 0):=by rw [List.getD_eq_getElem?_getD,List.getElem?_eq_getElem hq5];rfl
   rw [ite'_f (by simpa using hneg),if_neg hneg,hq,zn,ite'_t (zo hq5),I1_c hbq,zd,Int.toNat_natCast]
   by_cases h10:b.getD q 0=10
   ·rw [ite'_t (by simpa using h10),ite'_t (zo hq5),if_pos h10,zcv _ hq5]
    exact ih (i+1) n _ (by omega) (by omega) (by simpa using hb)
   ·rw [ite'_f (by simpa using h10),ite'_t (zo hq5),if_neg h10]
    rw [zd]
    by_cases he:b.getD q 0=vs[i]
    ·rw [ite'_f (by simpa using he),if_pos he]
     exact ih (i+1) n b (by omega) (by omega) hb
    ·rw [ite'_t (by simpa using he),if_neg he];rfl
theorem ten (k:Nat):C (k+1) 205 []=io 10:=by rw [F205.run];rfl
def FitT (o:Option (List Int)) (r:Option Res):Prop:=∃ y,r=some [(false,[.row 3 1 (I1 y)]),(false,[.d (.bool o.isSome)])]∧∀ b,o=some b→y=b
theorem l229 (ts vs:List Int) (r r':Int) (hT:okT ts) (hl:vs.length=ts.length) (h5:ts.length≤1048576) (K:Nat):∀ (m i n:Nat) (b:List Int),i+m=ts.length→m < n→b.length=5 →
  FitT (fitS (ts.drop i) (vs.drop i) b) (F229.L5 (K+1) (C (K+1)) n (i:Int) r (I1 ts) r' (I1 vs) (I1 b)):=by
 have hmax:(1048576:Nat)≤maxLen:=by decide
 intro m
 induction m with
 | zero =>
  intro i n b hm hn hb
  obtain ⟨n,rfl⟩:∃ j,n=j+1:=⟨n - 1,by omega⟩
  obtain rfl:i=ts.length:=by omega
  rw [F229.L5.succ,zn,ite'_f (lt_f (by omega)),List.drop_length,zjR]
  exact ⟨b,rfl,fun c h=>by cases h;rfl⟩
 | succ m ih =>
  intro i n b hm hn hb
  obtain ⟨n,rfl⟩:∃ j,n=j+1:=⟨n - 1,by omega⟩
  have hi:i < ts.length:=by omega
  have hiv:i < vs.length:=by omega
  have hx:=List.getElem?_eq_getElem hi
  have hy:=List.getElem?_eq_getElem hiv
  obtain ⟨h1,h2⟩:=hT _ (List.getElem_mem hi)
  rw [F229.L5.succ,zn,ite'_t (lt_t hi),ite'_t (zo hi),I1_c hx,zd,zE hi (m:=ts.length) (by omega),List.drop_eq_getElem_cons hi,List.drop_eq_getElem_cons hiv,fitS,zac (by omega) (by omega)]
  by_cases hneg:ts[i] < 0
  ·rw [ite'_t (by simpa using hneg),if_pos hneg,zn,ite'_t (zo hiv),I1_c hy,zd]
   by_cases he:vs[i] = -1 - ts[i]
   ·rw [ite'_f (by simpa using he.symm),if_pos he]
    exact ih (i+1) n b (by omega) (by omega) hb
   ·rw [ite'_t (by simpa using fun h=>he h.symm),if_neg he]
    exact ⟨b,rfl,fun c h=>by cases h⟩
  ·obtain ⟨q,hq⟩:∃ q:Nat,ts[i]=(q:Int):=⟨ts[i].toNat,by omega⟩
   have hq5:q < b.length:=by omega
   have hbq:b[q]? = some (b.getD q 0):=by rw [List.getD_eq_getElem?_getD,List.getElem?_eq_getElem hq5];rfl
   rw [ite'_f (by simpa using hneg),if_neg hneg,hq,zn,ite'_t (zo hq5),I1_c hbq,zd,ten,iB',Int.toNat_natCast,zn]
   have hset:∀ b',b'=b.set q vs[i]→FitT (fitS (ts.drop (i+1)) (vs.drop (i+1)) b') (ite' (inR (i:Int) vs.length) (zg (zm .i64 (I1 vs) (i:Int).toNat 0) fun n20=>ite' (inR (q:Int) b.length) (F229.L5 (K+1) (C (K+1)) n ((i+1:Nat):Int) r (I1 ts) r' (I1 vs) (zai (I1 b) q 0 [.int .i64 n20])) none) none):=by
    intro b' hb'
    rw [ite'_t (zo hiv),I1_c hy,zd,ite'_t (zo hq5),zcv _ hq5,← hb']
    exact ih (i+1) n b' (by omega) (by omega) (by rw [hb'];simpa using hb)
   by_cases h10:b.getD q 0=10
   ·rw [ite'_f (by simpa using h10),if_pos h10]
    exact hset _ rfl
   ·rw [ite'_t (by simpa using h10),if_neg h10,ite'_t (zo hq5),zd,ite'_t (zo hiv),I1_c hy,zd]
    by_cases he:b.getD q 0=vs[i]
    ·rw [ite'_f (by simpa using he),if_pos he]
     have:=hset b (by
      rw [← he]
      apply List.ext_getElem?
      intro j
      rw [List.getElem?_set]
      by_cases hj:q=j
      ·subst hj;rw [if_pos rfl,if_pos hq5,hbq]
      ·rw [if_neg hj])
     rw [ite'_t (zo hiv),I1_c hy,zd] at this
     rw [ite'_t (zo hiv),zd]
     exact this
    ·rw [ite'_t (by simpa using he),if_neg he]
     exact ⟨b,rfl,fun c h=>by cases h⟩
theorem c229 (x f:Atom) (b:List Int) (hT:okT x.2) (hl:x.1=f.1→f.2.length=x.2.length) (h5:x.2.length≤1048576) (hb:b.length=5) (hk:x.2.length < k) :
  FitT (fitA x f b) (C (k+2) 229 [.agg [.d (.int .i64 x.1),.d (.list 1 (I1 x.2))],.agg [.d (.int .i64 f.1),.d (.list 1 (I1 f.2))],.d (.list 1 (I1 b))]):=by
 rw [F229.run,zn,ite'_t (zY (by omega))]
 unfold fitA
 by_cases h:x.1=f.1
 ·rw [ite'_f (by simpa using h),if_pos h,zn,zn,hl h,ite'_f (by simp)]
  have:=l229 x.2 f.2 x.1 f.1 hT (hl h) h5 k x.2.length 0 (k+1) b (by omega) (by omega) hb
  rw [List.drop_zero,List.drop_zero] at this
  exact this
 ·rw [ite'_t (by simpa using h),if_neg h]
  exact ⟨b,rfl,fun c h=>by cases h⟩
structure Mok (fs xs:List Atom):Prop where
 f30:fs.length≤30
 x3:xs.length≤3
 ts:∀ x∈xs,okT x.2∧x.2.length≤1048576
 len:∀ x∈xs,∀ f∈fs,x.1=f.1→f.2.length=x.2.length
theorem zl1 {a n:Nat} (ha:a≤30) (hn:n≤3):a ^ n≤27000:=by
 have h1:a ^ n≤30 ^ n:=Nat.pow_le_pow_left ha n
 have h2:30 ^ n≤30 ^ 3:=Nat.pow_le_pow_right (by omega) hn
 omega
theorem Mok.lens {fs xs:List Atom} (h:Mok fs xs) (b:List Int):(mats fs xs b).length≤27000:=Nat.le_trans (zg6 fs xs b) (zl1 h.f30 h.x3)
theorem Mok.tail {fs:List Atom} {x:Atom} {xs:List Atom} (h:Mok fs (x::xs)):Mok fs xs :=
 ⟨h.f30,by have:=h.x3;simp only [List.length_cons] at this;omega,fun y hy=>h.ts y (List.mem_cons_of_mem _ hy),fun y hy=>h.len y (List.mem_cons_of_mem _ hy)⟩
def sub (fs xs:List Atom) (x:Atom) (b:List Int) (f:Atom):BL:=((fitA x f b).map (mats fs xs)).getD []
theorem c183 {fs:List Atom} (hk:2000000≤k) (xs:List Atom) (h:Mok fs xs) (b:List Int) (hb:b.length=5) (h1:1≤xs.length):C (k+xs.length+3) 183 [.d (.list 2 (A1 fs)),.d (.list 2 (A1 xs)),.d (.list 1 (I1 b))]=some [(false,[.frow 27 1 1 (LL (mats fs xs b))])]:=by
 have e:C (k+xs.length+3) 183 [.d (.list 2 (A1 fs)),.d (.list 2 (A1 xs)),.d (.list 1 (I1 b))]=matP 27 [.d (.list 2 (A1 fs)),.d (.list 2 (A1 xs)),.d (.list 1 (I1 b))]:=by kernel_rfl
 rw [e]
 exact znD ⟨h.f30,h.x3,fun e=>by rw [e] at h1;simp at h1,h.ts,h.len,hb⟩
end Go.Proofs.YtiacahdabflcdaaGreat.Q
namespace Go.Proofs.YtiacahdabflcdaaGreat.Q
open Go Ovi
variable {k:Nat}
theorem zcQ:∀ (a b:List Int),cmpI a b=0↔a=b
 | [],[]=>by simp [cmpI]
 | [],_::_=>by simp [cmpI]
 | _::_,[]=>by simp [cmpI]
 | x::xs,y::ys=>by
  unfold cmpI
  by_cases h1:x < y
  ·rw [if_pos h1]
   constructor
   ·intro h;omega
   ·intro h;cases h;omega
  ·rw [if_neg h1]
   by_cases h2:x > y
   ·rw [if_pos h2]
    constructor
    ·intro h;omega
    ·intro h;cases h;omega
   ·rw [if_neg h2,zcQ xs ys]
    have:x=y:=by omega
    subst this
    simp
theorem c114 (a b:List Int) (hk:a.length < k) (ha:a.length≤maxLen):C (k+1) 114 [.d (.list 1 (I1 a)),.d (.list 1 (I1 b))]=bo (decide (a=b)):=by
 rw [F114.run,zn,zn]
 by_cases hl:a.length=b.length
 ·rw [ite'_f (by simp [hl])]
  have:=zas (xs:=a) (L:=fun n i=>F114.L4 k (C k) n (I1 a) (I1 b) (a.length:Int) i) (stop:=fun i x=>x != b.getD i 0) (hit:=fun _=>bo false) (fin:=bo true)
   (fun n i x hx=>by
    have hi:=(List.getElem?_eq_some_iff.1 hx).1
    have hy:b[i]? = some (b.getD i 0):=by rw [List.getD_eq_getElem?_getD,List.getElem?_eq_getElem (by omega)];rfl
    rw [F114.L4.succ,zn,zn,ite'_t (lt_t hi),ite'_t (zo hi),I1_c hx,zd,ite'_t (zo (by omega)),I1_c hy,zd,zE hi ha];rfl)
   (fun n=>by rw [F114.L4.succ,ite'_f (lt_f (by omega))];rfl) k hk
  rcases this with ⟨i,x,hx,hst,e⟩ | ⟨hst,e⟩
  ·rw [show F114.L4 k (C k) k (I1 a) (I1 b) (a.length:Int) 0=_ from e]
   refine zaB (decide_eq_false (fun h=>?_)).symm
   subst h
   rw [List.getD_eq_getElem?_getD,hx] at hst
   simp at hst
  ·rw [show F114.L4 k (C k) k (I1 a) (I1 b) (a.length:Int) 0=_ from e]
   refine zaB (decide_eq_true ?_).symm
   apply List.ext_getElem?
   intro i
   by_cases hi:i < a.length
   ·have:=hst i a[i] (List.getElem?_eq_getElem hi)
    rw [List.getD_eq_getElem?_getD,List.getElem?_eq_getElem (by omega)] at this
    rw [List.getElem?_eq_getElem hi,List.getElem?_eq_getElem (by omega)]
    simpa using this
   ·rw [List.getElem?_eq_none (by omega),List.getElem?_eq_none (by omega)]
 ·rw [ite'_t (by simp;omega)]
  exact zaB (decide_eq_false (fun h=>hl (by rw [h]))).symm
theorem zn0 {b:List Int} {c:Bool} {f:Ovi.Rows→Bool→Option Res}:(zb (some [(false,[.row 3 1 (I1 b)]),(false,[.d (.bool c)])]) fun r=>zc (resO 3 1 2 false 1 r 0 0) fun l=>zj (resB 2 false 1 r 1 0) fun d=>f l d)=f (I1 b) c:=rfl
theorem c203 {a:Ovi.Rows} {fs xs:List Atom} (hM:Mok fs xs) (hk:2000000≤k):∀ (m n:Nat),n+m=xs.length→∀ b:List Int,b.length=5→C (k+m+3) 203 [.agg [.d (.list 3 a),.d (.list 2 (A1 fs))],.d (.list 2 (A1 xs)),.d (.int .i64 (n:Int)),.d (.list 1 (I1 b))]=some [(false,[.row 27 1 (LL (mats fs (xs.drop n) b))])]:=by
 have hmax:(1048576:Nat)≤maxLen:=by decide
 intro m
 induction m with
 | zero =>
  intro n hn b hb
  obtain rfl:n=xs.length:=by omega
  rw [F203.run,zq,ite'_t (by simp),zn,ite'_t (zY (by omega)),List.drop_length]
  rfl
 | succ m ih =>
  intro n hn b hb
  have hnl:n < xs.length:=by omega
  have hx:=List.getElem?_eq_getElem hnl
  have hxm:=List.getElem_mem hnl
  have hx0:=hM.ts _ hxm
  have hf30:=hM.f30
  have hx3:=hM.x3
  have hsub:∀ f,(sub fs (xs.drop (n+1)) xs[n] b f).length≤27000:=fun f=>by
   unfold sub
   cases fitA xs[n] f b with
   | none=>simp
   | some b'=>exact Nat.le_trans (zg6 fs _ b') (zl1 hf30 (by rw [List.length_drop];omega))
  have main:∀ (p i j:Nat) (acc:BL),i+p=fs.length→p < j→acc.length≤27000 * i →
    F203.L5 (k+m+3) (C (k+m+3)) j (A1 xs) (n:Int) (I1 b) (i:Int) a (A1 fs) (LL acc)=some [(false,[.row 27 1 (LL (acc++(fs.drop i).flatMap (sub fs (xs.drop (n+1)) xs[n] b)))])]:=by
   intro p
   induction p with
   | zero =>
    intro i j acc hm hj ha
    obtain ⟨j,rfl⟩:∃ q,j=q+1:=⟨j - 1,by omega⟩
    obtain rfl:i=fs.length:=by omega
    rw [F203.L5.succ,zq,ite'_f (lt_f (by omega)),List.drop_length]
    simp
   | succ p ihp =>
    intro i j acc hm hj ha
    obtain ⟨j,rfl⟩:∃ q,j=q+1:=⟨j - 1,by omega⟩
    have hi:i < fs.length:=by omega
    have hf:=List.getElem?_eq_getElem hi
    have hfm:=List.getElem_mem hi
    have hsl:=hsub fs[i]
    rw [F203.L5.succ,zq,ite'_t (lt_t hi),zq,ite'_t (zo hnl),zaU hx,zd,zaV hx,zh,ite'_t (zo hi),zaU hf,zd,zaV hf,zh]
    obtain ⟨y,e102,hy⟩:FitT (fitA xs[n] fs[i] b) (C (k+m+3) 229 [.agg [.d (.int .i64 (xs[n]).1),.d (.list 1 (I1 (xs[n]).2))],.agg [.d (.int .i64 (fs[i]).1),.d (.list 1 (I1 (fs[i]).2))],.d (.list 1 (I1 b))]):=c229 (k:=k+m+1) xs[n] fs[i] b hx0.1 (hM.len _ hxm _ hfm) hx0.2 hb (by omega)
    rw [e102,zn0,zE hi (m:=fs.length) (by omega),List.drop_eq_getElem_cons hi,List.flatMap_cons]
    cases hfa:fitA xs[n] fs[i] b with
    | none =>
     have hs:sub fs (xs.drop (n+1)) xs[n] b fs[i]=[]:=by unfold sub;rw [hfa];rfl
     rw [hs,List.nil_append,show (none:Option (List Int)).isSome=false from rfl,ite'_f rfl]
     exact ihp (i+1) j acc (by omega) (by omega) (by omega)
    | some b' =>
     have hs:sub fs (xs.drop (n+1)) xs[n] b fs[i]=mats fs (xs.drop (n+1)) b':=by unfold sub;rw [hfa];rfl
     obtain rfl:=hy b' hfa
     have hb':y.length=5:=by rw [zeH hfa];exact hb
     rw [hs] at hsl ⊢
     have hw:IntKind.i64.wrap ((n:Int)+1)=((n+1:Nat):Int):=zE hnl (m:=xs.length) (by omega)
     rw [show (some y).isSome=true from rfl,ite'_t rfl]
     rw [hw,ih (n+1) (by omega) y hb']
     simp only [zl,zy,zh]
     rw [ite'_t (zY (by rw [zQ,zQ];omega)),znU,← List.append_assoc]
     exact ihp (i+1) j _ (by omega) (by omega) (by rw [List.length_append];omega)
  have:=main fs.length 0 (k+m+3) [] (by omega) (by omega) (by simp)
  rw [List.drop_zero,List.nil_append] at this
  rw [show k+(m+1)+3=(k+m+3)+1 by omega,F203.run,zq,ite'_f (by simp;omega),List.drop_eq_getElem_cons hnl]
  exact this
def tens:List Int:=[10,10,10,10,10]
theorem c184:C (k+2) 184 []=some [(false,[.row 3 1 (I1 tens)])]:=by
 have:C (k+1) 210 [.d (.list 1 [[.int .i64 10]]),.d (.int .i64 5)]=zgi 3 [.d (.list 1 [[.int .i64 10]]),.d (.int .i64 5)]:=by kernel_rfl
 rw [F184.run,this]
 rfl
theorem c204 (hk:100≤k):C (k+2) 204 []=some [(false,[.row 3 1 (I1 tens)])]:=by
 have step:∀ (n:Nat) (l:List Int),l.length < 5→F204.L2 (k+1) (C (k+1)) (n+1) (I1 l)=F204.L2 (k+1) (C (k+1)) n (I1 (l++[10])):=by
  intro n l hl
  have h5:decide (((l.length:Nat):Int) < 5)=true:=by rw [decide_eq_true_eq];omega
  have hf:fits (l.length+[[D.int IntKind.i64 10]].length)=true:=zY (by simp only [List.length_cons,List.length_nil];omega)
  rw [F204.L2.succ,zn,ite'_t h5,ten,iB',ite'_t hf,zcd]
 obtain ⟨j,rfl⟩:∃ j,k=j+5:=⟨k - 5,by omega⟩
 have e:F204.L2 (j+5+1) (C (j+5+1)) (j+5+1) (I1 [])=F204.L2 (j+5+1) (C (j+5+1)) (j+1) (I1 [10,10,10,10,10]) :=
  (step (j+5) [] (by simp)).trans ((step (j+4) [10] (by simp)).trans ((step (j+3) [10,10] (by simp)).trans ((step (j+2) [10,10,10] (by simp)).trans (step (j+1) [10,10,10,10] (by simp)))))
 have e2:F204.L2 (j+5+1) (C (j+5+1)) (j+1) (I1 [10,10,10,10,10])=some [(false,[.row 3 1 (I1 tens)])]:=by
  rw [F204.L2.succ,zn,ite'_f (by simp)]
  rfl
 rw [F204.run]
 exact e.trans e2
theorem c211 (L:BL) (f:FuncId) (caps:Ovi.Rows) (p:List Int→Bool) (hk:L.length < k) (hz:L.length≤maxLen) (hp:∀ x∈L,C k f (.d (.list 1 (I1 x))::caps.map fun c=>.cap c 0)=bo (p x)):C (k+2) 211 [.d (.list 1 (LL L)),.d (.fn f caps)]=bo (L.any p):=by
 rw [F211.run,F240.run,zQ]
 have:=zas (xs:=L) (L:=fun n i=>F240.L2 k (C k) n (LL L) f caps (L.length:Int) i) (stop:=fun _ x=>p x) (hit:=fun i=>some [(false,[.d (.int .i64 (i:Int))])]) (fin:=some [(false,[.d (.int .i64 (-1))])])
  (fun n i x hx=>by
   have hi:=(List.getElem?_eq_some_iff.1 hx).1
   rw [F240.L2.succ,zQ,ite'_t (lt_t hi),ite'_t (zo hi),LL_c hx,zh,zE hi hz]
   have:=hp x (List.mem_of_getElem? hx)
   simp only [List.append_eq,List.nil_append] at this ⊢
   rw [this,bB];rfl)
  (fun n=>by rw [F240.L2.succ,ite'_f (lt_f (by omega))]) k hk
 rcases this with ⟨i,x,hx,hst,e⟩ | ⟨hst,e⟩
 ·rw [show F240.L2 k (C k) k (LL L) f caps (L.length:Int) 0=_ from e]
  simp only [zl,zx,zd]
  refine zaB ?_
  rw [List.any_eq_true.2 ⟨x,List.mem_of_getElem? hx,hst⟩]
  simp
 ·rw [show F240.L2 k (C k) k (LL L) f caps (L.length:Int) 0=_ from e]
  simp only [zl,zx,zd]
  refine zaB ?_
  have:L.any p=false:=by
   rw [List.any_eq_false]
   intro x hx
   obtain ⟨i,hi⟩:=List.mem_iff_getElem?.1 hx
   simpa using hst i x hi
  rw [this];rfl
theorem c185 (L:BL) (z:List Int) (hk:L.length < k) (hz:L.length≤1048576) (hx:∀ x∈L,x.length≤1048576) (hk2:2000000≤k):C (k+5) 185 [.d (.list 1 (LL L)),.d (.list 1 (I1 z))]=bo (decide (z∈L)):=by
 have hmax:(1048576:Nat)≤maxLen:=by decide
 rw [F185.run,c211 (k:=k+2) L 212 [[.list 1 (I1 z)]] (fun x=>decide (x=z)) (by omega) (by omega) (fun x hxm=>by
  have:=hx x hxm
  rw [List.map_cons,List.map_nil,F212.run,c114 (k:=k) x z (by omega) (by omega),bB];rfl),bB]
 refine zaB ?_
 rw [Bool.eq_iff_iff]
 simp
theorem l142 (all:BL) (hall:all.length≤27000) (hl:∀ x∈all,x.length=5) (hk:2000000≤k):F142.L5 (k+5) (C (k+5)) (k+5) (all.length:Int) 0 [] (LL all) 0=some [(false,[.frow 27 1 1 (LL (ded [] all))])]:=by
 have hmax:(1048576:Nat)≤maxLen:=by decide
 have main:∀ (m i n lo:Nat) (out:BL),lo≤i→i+m=all.length→m < n→out.length≤i→(∀ x∈out,x.length=5)→F142.L5 (k+5) (C (k+5)) n (all.length:Int) (i:Int) (LL out) (LL all) lo=some [(false,[.frow 27 1 1 (LL (ded out (all.drop i)))])]:=by
  intro m
  induction m with
  | zero =>
   intro i n lo out hlo hm hn ho hx
   obtain ⟨n,rfl⟩:∃ j,n=j+1:=⟨n - 1,by omega⟩
   obtain rfl:i=all.length:=by omega
   rw [F142.L5.succ,ite'_f (lt_f (by omega)),List.drop_length,ded]
  | succ m ih =>
   intro i n lo out hlo hm hn ho hx
   obtain ⟨n,rfl⟩:∃ j,n=j+1:=⟨n - 1,by omega⟩
   have hi:i < all.length:=by omega
   have hg:=List.getElem?_eq_getElem hi
   have h5:=hl _ (List.getElem_mem hi)
   rw [F142.L5.succ,ite'_t (lt_t hi),zQ,ite'_t (zo hi),LL_c hg,zh,c185 (k:=k) out all[i] (by omega) (by omega) (fun x h=>by rw [hx x h];omega) hk,bB,zE hi (m:=all.length) (by omega),List.drop_eq_getElem_cons hi,ded]
   by_cases hmem:all[i]∈out
   ·rw [decide_eq_true hmem,ite'_nt,if_pos hmem]
    exact ih (i+1) n lo out (by omega) (by omega) (by omega) (by omega) hx
   ·rw [decide_eq_false hmem,ite'_nf,if_neg hmem,Int.toNat_natCast,ite'_t (Nat.ble_eq_true_of_le hlo),ite'_t (zY (by rw [zQ];simp;omega)),zf2]
    refine ih (i+1) n (i+1) _ (by omega) (by omega) (by omega) (by rw [List.length_append,List.length_singleton];omega) (fun x h=>?_)
    rcases List.mem_append.1 h with h | h
    ·exact hx x h
    ·rw [List.mem_singleton.1 h];exact h5
 exact main all.length 0 (k+5) 0 [] (by omega) (by omega) (by omega) (Nat.zero_le _) (by simp)
theorem l167 (all:BL) (hall:all.length≤27000) (hl:∀ x∈all,x.length=5) (hk:2000000≤k):F167.L6 (k+1) (C (k+1)) (k+1) 0 [] (LL all)=some [(false,[.row 27 1 (LL (ded [] all))])]:=by
 have hmax:(1048576:Nat)≤maxLen:=by decide
 have inner:∀ (out:BL) (i:Nat) (hi:i < all.length),out.length≤i→(∀ x∈out,x.length=5)→∀ (m j n k6:Nat) (met:Bool),j+m=out.length→m < n →
   F167.L10 (k+1) (C (k+1)) k6 n (i:Int) met (j:Int) (LL out) (LL all)=F167.L6 (k+1) (C (k+1)) k6 ((i+1:Nat):Int) (LL (if met=true∨all[i]∈out.drop j then out else out++[all[i]])) (LL all):=by
  intro out i hi ho hx m
  induction m with
  | zero =>
   intro j n k6 met hm hn
   obtain ⟨n,rfl⟩:∃ q,n=q+1:=⟨n - 1,by omega⟩
   obtain rfl:j=out.length:=by omega
   rw [F167.L10.succ,zQ,ite'_f (lt_f (by omega)),List.drop_length,zE hi (m:=all.length) (by omega),zQ,LL_c (List.getElem?_eq_getElem hi)]
   cases met with
   | true=>rw [ite'_nt,if_pos (.inl rfl)]
   | false=>rw [ite'_nf,ite'_t (zo hi),zh,ite'_t (zY (by simp;omega)),if_neg (by simp),zf2]
  | succ m ih =>
   intro j n k6 met hm hn
   obtain ⟨n,rfl⟩:∃ q,n=q+1:=⟨n - 1,by omega⟩
   have hj:j < out.length:=by omega
   have hg:=List.getElem?_eq_getElem hj
   have h5:=hx _ (List.getElem_mem hj)
   rw [F167.L10.succ,zQ,ite'_t (lt_t hj),zE hj (m:=out.length) (by omega),List.drop_eq_getElem_cons hj]
   cases met with
   | true =>
    rw [ite'_t rfl,ih (j+1) n k6 true (by omega) (by omega),if_pos (.inl rfl),if_pos (.inl rfl)]
   | false =>
    rw [ite'_f rfl,ite'_t (zo hj),LL_c hg,zh,zQ,ite'_t (zo hi),LL_c (List.getElem?_eq_getElem hi),zh,c103 (k:=k) out[j] all[i] (by omega) (by omega),iB',ih (j+1) n k6 _ (by omega) (by omega)]
    congr 2
    by_cases he:out[j]=all[i]
    ·rw [if_pos (.inl (by rw [(zcQ _ _).2 he];rfl)),if_pos (.inr (by rw [he];exact List.mem_cons_self))]
    ·have h0:(cmpI out[j] all[i]==0)=false:=by
      rw [beq_eq_false_iff_ne]
      exact fun h=>he ((zcQ _ _).1 h)
     rw [h0]
     by_cases hmem:all[i]∈out.drop (j+1)
     ·rw [if_pos (.inr hmem),if_pos (.inr (List.mem_cons_of_mem _ hmem))]
     ·rw [if_neg (by simp [hmem]),if_neg (by
       rintro (h | h)
       ·cases h
       ·rcases List.mem_cons.1 h with h | h
        ·exact he h.symm
        ·exact hmem h)]
 have main:∀ (m i n:Nat) (out:BL),i+m=all.length→m < n→out.length≤i→(∀ x∈out,x.length=5)→F167.L6 (k+1) (C (k+1)) n (i:Int) (LL out) (LL all)=some [(false,[.row 27 1 (LL (ded out (all.drop i)))])]:=by
  intro m
  induction m with
  | zero =>
   intro i n out hm hn ho hx
   obtain ⟨n,rfl⟩:∃ j,n=j+1:=⟨n - 1,by omega⟩
   obtain rfl:i=all.length:=by omega
   rw [F167.L6.succ,zQ,ite'_f (lt_f (by omega)),List.drop_length,ded]
  | succ m ih =>
   intro i n out hm hn ho hx
   obtain ⟨n,rfl⟩:∃ j,n=j+1:=⟨n - 1,by omega⟩
   have hi:i < all.length:=by omega
   have h5:=hl _ (List.getElem_mem hi)
   rw [F167.L6.succ,zQ,ite'_t (lt_t hi)]
   have:=inner out i hi ho hx out.length 0 (k+1) n false (by omega) (by omega)
   rw [show ((0:Nat):Int)=0 from rfl,List.drop_zero] at this
   rw [this,List.drop_eq_getElem_cons hi,ded]
   by_cases hmem:all[i]∈out
   ·rw [if_pos (.inr hmem),if_pos hmem]
    exact ih (i+1) n out (by omega) (by omega) (by omega) hx
   ·rw [if_neg (by simp [hmem]),if_neg hmem]
    refine ih (i+1) n _ (by omega) (by omega) (by rw [List.length_append,List.length_singleton];omega) (fun x h=>?_)
    rcases List.mem_append.1 h with h | h
    ·exact hx x h
    ·rw [List.mem_singleton.1 h];exact h5
 exact main all.length 0 (k+1) [] (by omega) (by omega) (Nat.zero_le _) (by simp)
end Go.Proofs.YtiacahdabflcdaaGreat.Q
namespace Go.Proofs.YtiacahdabflcdaaGreat.Q
open Go Ovi
variable {k:Nat}
theorem zlH:∀ a b:List Int,cmpI a b=cmpL a b
 | [],[]=>rfl
 | [],_::_=>rfl
 | _::_,[]=>rfl
 | x::xs,y::ys=>by
  unfold cmpI cmpL
  rw [zlH xs ys]
end Go.Proofs.YtiacahdabflcdaaGreat.Q
namespace Go.Proofs.YtiacahdabflcdaaGreat.Q
open Go Ovi
variable {k:Nat}
theorem c136 {a:Ovi.Rows} {xs:List Atom} {valid:Atom→Bool} (hv:zdK a xs valid) (hk:2000000≤k) (ha:a.length≤1048576) (hs:zD xs+xs.length≤1048576) :
  C (k+9) 136 [.d (.list 3 a),.d (.list 2 (A1 xs)),.d (.int .i64 3)]=bo (decide ((1:Int)≤(xs.length:Int)∧(xs.length:Int)≤3)&&xs.all valid):=by
 have hmax:(1048576:Nat)≤maxLen:=by decide
 rw [F136.run,c128,bB,zq]
 cases decide ((1:Int)≤(xs.length:Int)∧(xs.length:Int)≤3) with
 | false=>rfl
 | true =>
  rw [ite'_t rfl,c139 (k:=k+6) xs 178 [[.list 3 a]] (fun x=>!valid x) (by omega) (by omega) (fun x hx=>by
   have:=zah hx
   rw [List.map_cons,List.map_nil,F178.run,(hv x hx k (by omega) (by omega)).1,bB];rfl),bB]
  exact zaB (zcz xs valid)
structure Qok (a:Ovi.Rows) (fs xs:List Atom) (valid:Atom→Bool) (ib:Bool):Prop where
 ha:a.length≤1048576
 hs:zD xs+xs.length≤1048576
 hv:zdK a xs valid
 h1:1≤xs.length
 h3:xs.length≤3
 all:∀ x∈xs,valid x=true
 inst:∀ k,2000000≤k→C (k+8) 40 [.agg [.d (.list 3 a),.d (.list 2 (A1 fs))]]=bo ib∧C (k+8) 58 [.agg [.d (.list 3 a),.d (.list 2 (A1 fs))]]=bo ib
 mok:ib=true→Mok fs xs
variable {a:Ovi.Rows} {fs xs:List Atom} {valid:Atom→Bool} {ib:Bool}
theorem c182 (h:Qok a fs xs valid ib) (hk:2000000≤k):C (k+15) 182 [.agg [.d (.list 3 a),.d (.list 2 (A1 fs))],.d (.list 2 (A1 xs))]=bo ib:=by
 rw [F182.run,(h.inst (k+6) (by omega)).1,bB]
 cases ib with
 | false=>rfl
 | true =>
  have:=h.h1
  have h13:decide ((1:Int)≤(xs.length:Int)∧(xs.length:Int)≤3)=true:=decide_eq_true (by have:=h.h3;omega)
  rw [ite'_t rfl,zq,ite'_f (beq_eq_false_iff_ne.2 (by omega)),c136 (k:=k+5) h.hv (by omega) h.ha h.hs,bB,h13,List.all_eq_true.2 h.all]
  rfl
theorem c202 (h:Qok a fs xs valid ib) (hk:2000000≤k):C (k+16) 202 [.agg [.d (.list 3 a),.d (.list 2 (A1 fs))],.d (.list 2 (A1 xs))]=bo ib:=by
 have hmax:(1048576:Nat)≤maxLen:=by decide
 have h3:=h.h3
 rw [F202.run]
 have:=zbE (xs:=xs) (L:=fun n i=>F202.L2 (k+15) (C (k+15)) n (A1 xs) i a (A1 fs)) (stop:=fun x=>!valid x) (hit:=bo false) (fin:=bo ib)
  (fun n i x hx=>by
   have hi:=(List.getElem?_eq_some_iff.1 hx).1
   have hxm:=List.mem_of_getElem? hx
   have hl:=zah hxm
   have hs:=h.hs
   have ha:=h.ha
   rw [F202.L2.succ,zq,ite'_t (lt_t hi),ite'_t (zo hi),zaU hx,zd,zaV hx,zh,(h.hv x hxm (k+10) (by omega) (by omega)).2,bB,zE hi (m:=xs.length) (by omega)];rfl)
  (fun n=>by
   rw [F202.L2.succ,zq,ite'_f (lt_f (by omega)),(h.inst (k+7) (by omega)).2,bB]
   cases ib with
   | false=>rfl
   | true=>rw [ite'_t rfl,decide_eq_true (by omega)];rfl) (k+15) (by omega)
 rw [show F202.L2 (k+15) (C (k+15)) (k+15) (A1 xs) 0 a (A1 fs)=_ from this]
 have hf:(xs.any fun x=>!valid x)=false:=by
  rw [List.any_eq_false]
  intro x hx
  rw [h.all x hx];decide
 rw [hf];rfl
def mtc (fs xs:List Atom):BL:=ded [] (mats fs xs tens)
theorem zeN (h:Mok fs xs):(mats fs xs tens).length≤27000∧∀ x∈mats fs xs tens,x.length=5:=⟨h.lens tens,fun x hx=>by rw [zjZ fs xs tens x hx];rfl⟩
theorem zmE (h:Mok fs xs):(mtc fs xs).length≤27000∧∀ x∈mtc fs xs,x.length=5:=by
 obtain ⟨h1,h2⟩:=zeN h
 unfold mtc
 refine ⟨?_,fun x hx=>?_⟩
 ·have:=zkC (mats fs xs tens) []
  simp only [List.length_nil] at this
  omega
 ·rcases (zie _ _ _).1 hx with h | h
  ·cases h
  ·exact h2 x h
def mtr (ib:Bool) (fs xs:List Atom):Option Res:=cond ib (some [(false,[.row 27 1 (LL (mtc fs xs))])]) (some [(false,[.nil])])
def mtrF (ib:Bool) (fs xs:List Atom):Option Res:=cond ib (some [(false,[.frow 27 1 1 (LL (mtc fs xs))])]) (some [(false,[.nil])])
theorem c142 (h:Qok a fs xs valid ib) (hk:2000000≤k):C (k+16) 142 [.agg [.d (.list 3 a),.d (.list 2 (A1 fs))],.d (.list 2 (A1 xs))]=mtrF ib fs xs:=by
 rw [F142.run,c182 h hk,bB]
 cases ib with
 | false=>rfl
 | true =>
  have hm:=h.mok rfl
  have h3:=h.h3
  obtain ⟨h1,h2⟩:=zeN hm
  obtain ⟨j,hj,hj2⟩:∃ j,k+15=j+xs.length+3∧2000000≤j:=⟨k+12 - xs.length,by omega,by omega⟩
  have e105:C (k+15) 183 [.d (.list 2 (A1 fs)),.d (.list 2 (A1 xs)),.d (.list 1 (I1 tens))]=some [(false,[.frow 27 1 1 (LL (mats fs xs tens))])]:=by
   rw [hj];exact c183 hj2 xs hm tens rfl h.h1
  rw [ite'_nt,c184 (k:=k+13)]
  simp only [zl,zy,zh]
  rw [e105]
  simp only [zl,zJ,zh]
  rw [zQ]
  exact l142 (k:=k+10) _ h1 h2 (by omega)
theorem c167 (h:Qok a fs xs valid ib) (hk:2000000≤k):C (k+17) 167 [.agg [.d (.list 3 a),.d (.list 2 (A1 fs))],.d (.list 2 (A1 xs))]=mtr ib fs xs:=by
 rw [F167.run,c202 h hk,bB]
 cases ib with
 | false=>rfl
 | true =>
  have hm:=h.mok rfl
  have h3:=h.h3
  obtain ⟨h1,h2⟩:=zeN hm
  have e71:C (k+16) 203 [.agg [.d (.list 3 a),.d (.list 2 (A1 fs))],.d (.list 2 (A1 xs)),.d (.int .i64 0),.d (.list 1 (I1 tens))]=some [(false,[.row 27 1 (LL (mats fs xs tens))])]:=by
   have:=c203 (a:=a) hm (k:=k+13 - xs.length) (by omega) xs.length 0 (by omega) tens rfl
   rw [show k+13 - xs.length+xs.length+3=k+16 by omega] at this
   exact this
  rw [ite'_nt,c204 (k:=k+14) (by omega)]
  simp only [zl,zy,zh]
  rw [e71]
  simp only [zl,zy,zh]
  exact l167 (k:=k+15) _ h1 h2 (by omega)
theorem set_mem' {b:List Int} {i:Nat} {v z:Int} (h:z∈b.set i v):z∈b∨z=v:=List.mem_or_eq_of_mem_set h
theorem zkF:∀ (ts vs b b':List Int),fitS ts vs b=some b'→∀ z∈b',z∈b∨z∈vs
 | [],_,b,b',h,z,hz=>by simp only [fitS] at h;cases h;exact .inl hz
 | t::ts,[],b,b',h,z,hz=>by simp only [fitS] at h;cases h;exact .inl hz
 | t::ts,v::vs,b,b',h,z,hz=>by
  have go:∀ b1,fitS ts vs b1=some b'→(∀ y∈b1,y∈b∨y=v)→z∈b∨z∈v::vs:=fun b1 h1 h2=>by
   rcases zkF ts vs b1 b' h1 z hz with h | h
   ·rcases h2 z h with h | rfl
    ·exact .inl h
    ·exact .inr List.mem_cons_self
   ·exact .inr (List.mem_cons_of_mem _ h)
  rw [fitS] at h
  split at h
  ·split at h
   ·exact go b h fun y hy=>.inl hy
   ·cases h
  ·split at h
   ·exact go _ h fun y hy=>set_mem' hy
   ·split at h
    ·exact go b h fun y hy=>.inl hy
    ·cases h
theorem zkQ (fs:List Atom):∀ (xs:List Atom) (b c:List Int),c∈mats fs xs b→∀ z∈c,z∈b∨∃ f∈fs,z∈f.2
 | [],b,c,h,z,hz=>by rw [mats,List.mem_singleton] at h;subst h;exact .inl hz
 | x::xs,b,c,h,z,hz=>by
  rw [mats,List.mem_flatMap] at h
  obtain ⟨f,hf,hc⟩:=h
  cases hb:fitA x f b with
  | none=>rw [hb] at hc;simp at hc
  | some b' =>
   rw [hb] at hc
   rcases zkQ fs xs b' c (by simpa using hc) z hz with h | h
   ·unfold fitA at hb
    split at hb
    ·rcases zkF _ _ _ _ hb z h with h | h
     ·exact .inl h
     ·exact .inr ⟨f,hf,h⟩
    ·cases hb
   ·exact .inr h
structure Good3 (ws:BL):Prop where
 ss:SSL ws
 len:ws.length≤27000
 short:∀ x∈ws,x.length≤3
 int:∀ x∈ws,∀ z∈x,inI z
end Go.Proofs.YtiacahdabflcdaaGreat.Q
namespace Go.Proofs.YtiacahdabflcdaaGreat.Q
open Go Ovi
variable {k:Nat}
def neg (t:Int):Int := -1 - t
def inst (x:Atom):Atom:=(x.1,x.2.map neg)
theorem zm6 {t:Int} (h : -10≤t∧t≤4):IntKind.i64.wrap (-1 - t)=neg t:=zac (by omega) (by omega)
theorem zhP {t:Int} (h : -10≤t∧t≤4):okV (neg t)=true:=by unfold okV neg;rw [decide_eq_true_eq];omega
theorem zoR {t:Int} (h : -10≤t∧t≤4):inI (neg t):=by unfold inI neg;omega
def okI (r:Int) (vs:List Int):Option Res:=some [(true,[.d (.int .i64 r),.row 3 1 (I1 vs)]),(false,[.d (.bool true)])]
theorem zm8 {r:Int} {vs:List Int} {f:Int→Ovi.Rows→Bool→Option Res}:(zb (okI r vs) fun r16=>zg (resI .i64 2 true 2 r16 0 0) fun n17=>zc (resO 3 1 2 true 2 r16 0 1) fun l53=>zj (resB 2 false 1 r16 1 0) fun b19=>f n17 l53 b19)=f r (I1 vs) true:=rfl
theorem c141 (x:Atom) (hz:x.2.length≤1048576):C (k+2) 141 [.agg [.d (.int .i64 x.1),.d (.list 1 (I1 x.2))]]=some [(true,[.d (.int .i64 x.1),.row 3 1 (I1 x.2)])]:=by
 have e:C (k+1) 87 [.d (.list 1 (I1 x.2))]=some [(false,[.row 3 1 (I1 x.2)])]:=by
  have:C (k+1) 87 [.d (.list 1 (I1 x.2))]=zbn 3 [.d (.list 1 (I1 x.2))]:=by kernel_rfl
  rw [this]
  simp only [zbn,zbz]
  rw [show Nat.ble x.2.length 1099511627776=true from Nat.ble_eq_true_of_le (by omega)]
  rfl
 rw [F141.run,e]
 rfl
theorem zh8 (l:List Atom) (x:Atom):A1 l++[[D.int .i64 x.1,D.list 1 (I1 x.2)]]=A1 (l++[x]):=by simp [A1]
theorem zng (l:List Atom) (i:Nat):(A1 l).take i=A1 (l.take i):=by simp [A1]
theorem znf (l:List Atom) (i:Nat):(A1 l).drop i=A1 (l.drop i):=by simp [A1]
theorem c83 (xs:List Atom) (hx:∀ x∈xs,x.2.length≤1048576) (hl:xs.length≤1048576) (hk:2000000≤k):C (k+3) 83 [.d (.list 2 (A1 xs))]=some [(false,[.frow 114 2 1 (A1 xs)])]:=by
 have hmax:(1048576:Nat)≤maxLen:=by decide
 rw [F83.run,zq]
 have main:∀ (m i n:Nat),i+m=xs.length→m < n→F83.L3 (k+2) (C (k+2)) n (A1 xs) (xs.length:Int) (i:Int) (A1 (xs.take i))=some [(false,[.frow 114 2 1 (A1 xs)])]:=by
  intro m
  induction m with
  | zero =>
   intro i n hm hn
   obtain ⟨n,rfl⟩:∃ j,n=j+1:=⟨n - 1,by omega⟩
   obtain rfl:i=xs.length:=by omega
   rw [F83.L3.succ,ite'_f (lt_f (by omega)),List.take_length]
  | succ m ih =>
   intro i n hm hn
   obtain ⟨n,rfl⟩:∃ j,n=j+1:=⟨n - 1,by omega⟩
   have hi:i < xs.length:=by omega
   have hg:=List.getElem?_eq_getElem hi
   have:=ih (i+1) n (by omega) (by omega)
   rw [List.take_succ_eq_append_getElem hi] at this
   rw [F83.L3.succ,ite'_t (lt_t hi),zq,ite'_t (zo hi),zaU hg,zd,zaV hg,zh,c141 (k:=k) xs[i] (hx _ (List.getElem_mem hi))]
   show ite' (fits ((A1 (xs.take i)).length+[[D.int IntKind.i64 (xs[i]).1,D.list 1 (I1 (xs[i]).2)]].length)) (F83.L3 (k+2) (C (k+2)) n (A1 xs) (xs.length:Int) (IntKind.i64.wrap ((i:Int)+1)) (A1 (xs.take i)++[[D.int IntKind.i64 (xs[i]).1,D.list 1 (I1 (xs[i]).2)]])) none=_
   rw [ite'_t (zY (by rw [zq,List.length_take];simp only [List.length_cons,List.length_nil];omega)),zE hi (m:=xs.length) (by omega),zh8]
   exact this
 exact main xs.length 0 (k+2) (by omega) (by omega)
def can (xs:List Atom):List Atom:=Lib.compact (zaa xs)
theorem zkB (xs:List Atom):(can xs).length≤xs.length:=by
 have:=zdv (zaa xs)
 rw [zb7] at this
 exact this
theorem zbM (xs:List Atom) (z:Atom):z∈can xs↔z∈xs:=by unfold can;rw [zj0,ze9]
theorem zgx {l:List Atom} (hl:l.length≤1048576) (hx:∀ x∈l,x.2.length≤1048576):(Nat.ble l.length 1099511627776&&l.all fun z=>Nat.ble z.2.length 1099511627776)=true:=by
 rw [Bool.and_eq_true,List.all_eq_true]
 exact ⟨Nat.ble_eq_true_of_le (by omega),fun z hz=>Nat.ble_eq_true_of_le (by have:=hx z hz;omega)⟩
theorem zlD (xs:List Atom):(can xs).Nodup:=(zd4 xs).imp fun {a b} h e=>by
 subst e
 rw [swoA.irrefl] at h
 cases h
theorem c92 (xs:List Atom) (hx:∀ x∈xs,x.2.length≤1048576) (hl:xs.length≤1048576) (hk:2000000≤k):C (k+4) 92 [.d (.list 2 (A1 xs))]=some [(false,[.frow 114 2 1 (A1 (can xs))])]:=by
 have e1:C (k+3) 150 [.var 0 0,.d (.int .i64 114),.d (.list 2 (A1 xs)),.d (.fn 77 [])]=some [(false,[.frow 114 2 1 (A1 (zaa xs))])]:=by
  have:C (k+3) 150 [.var 0 0,.d (.int .i64 114),.d (.list 2 (A1 xs)),.d (.fn 77 [])]=zdm 77 [.var 0 0,.d (.int .i64 114),.d (.list 2 (A1 xs)),.d (.fn 77 [])]:=by kernel_rfl
  rw [this]
  unfold zdm zbL
  simp only [zhm,Option.bind_some]
  rw [zgx hl hx]
  rfl
 have e2:C (k+3) 151 [.var 0 0,.d (.int .i64 114),.d (.list 2 (A1 (zaa xs))),.d (.fn 152 [])]=some [(false,[.frow 114 2 1 (A1 (can xs))]),(true,[])]:=by
  have:C (k+3) 151 [.var 0 0,.d (.int .i64 114),.d (.list 2 (A1 (zaa xs))),.d (.fn 152 [])]=zdh 152 [.var 0 0,.d (.int .i64 114),.d (.list 2 (A1 (zaa xs))),.d (.fn 152 [])]:=by kernel_rfl
  rw [this]
  unfold zdh zbL
  simp only [zhm,Option.bind_some]
  rw [zgx (by rw [zb7];exact hl) (fun x h=>hx x ((ze9 _ _).1 h))]
  have hnd:=zlD xs
  unfold can at hnd ⊢
  simp only [show Nat.beq 152 152=true from rfl,cond_true,Option.bind_some,decide_eq_true hnd]
  rfl
 have r0:∀ l,resF 114 2 0 1 false 1 [(false,[.frow 114 2 1 l])] 0 0=some l:=fun _=>rfl
 rw [F92.run,c83 xs hx hl hk]
 simp only [zl,zJ,zh]
 rw [e1]
 simp only [zl,r0,zh]
 rw [e2]
 rfl
theorem c42 {a:Ovi.Rows} (ha2:a.length≤1048576) (xs:List Atom) (hx:∀ x∈xs,x.2.length≤1048576) (hl:xs.length≤1048576) (hk:2000000≤k):C (k+4) 42 [.agg [.d (.list 3 a),.d (.list 2 (A1 xs))]]=some [(true,[.row 112 3 a,.frow 114 2 1 (A1 xs)])]:=by
 have e:C (k+3) 82 [.d (.list 3 a)]=some [(false,[.row 112 3 a])]:=by
  rw [zfc (p:=zcB 112 3) rfl]
  unfold zcB
  simp only []
  rw [show Nat.ble (List.length a) 1099511627776=true from Nat.ble_eq_true_of_le (by omega)]
  rfl
 rw [F42.run,e]
 simp only [zl,zy,zh]
 rw [c83 xs hx hl hk]
 rfl
theorem c116 (x:Atom) (hz:x.2.length≤1048576):C (k+1) 116 [.agg [.d (.int .i64 x.1),.d (.list 1 (I1 x.2))]]=some [(true,[.d (.int .i64 x.1),.row 3 1 (I1 x.2)])]:=by
 have hmax:(1048576:Nat)≤maxLen:=by decide
 rw [F116.run,zn,ite'_t (zY (by omega))]
theorem c68 {a:Ovi.Rows} (ha2:a.length≤1048576) (xs:List Atom) (hx:∀ x∈xs,x.2.length≤1048576) (hl:xs.length≤1048576) (hk:2000000≤k):C (k+3) 68 [.agg [.d (.list 3 a),.d (.list 2 (A1 xs))]]=some [(true,[.row 112 3 a,.frow 114 2 1 (A1 xs)])]:=by
 have hmax:(1048576:Nat)≤maxLen:=by decide
 rw [F68.run,ite'_t (zY (by omega))]
 have main:∀ (m i n:Nat),i+m=xs.length→m < n→F68.L3 (k+2) (C (k+2)) n (i:Int) a (A1 xs) [] [] a (A1 (xs.take i))=some [(true,[.row 112 3 a,.frow 114 2 1 (A1 xs)])]:=by
  intro m
  induction m with
  | zero =>
   intro i n hm hn
   obtain ⟨n,rfl⟩:∃ j,n=j+1:=⟨n - 1,by omega⟩
   obtain rfl:i=xs.length:=by omega
   rw [F68.L3.succ,zq,ite'_f (lt_f (by omega)),List.take_length]
  | succ m ih =>
   intro i n hm hn
   obtain ⟨n,rfl⟩:∃ j,n=j+1:=⟨n - 1,by omega⟩
   have hi:i < xs.length:=by omega
   have hg:=List.getElem?_eq_getElem hi
   have:=ih (i+1) n (by omega) (by omega)
   rw [List.take_succ_eq_append_getElem hi] at this
   rw [F68.L3.succ,zq,ite'_t (lt_t hi),ite'_t (zo hi),zaU hg,zd,zaV hg,zh,c116 (k:=k+1) xs[i] (hx _ (List.getElem_mem hi))]
   show ite' (fits ((A1 (xs.take i)).length+[[D.int IntKind.i64 (xs[i]).1,D.list 1 (I1 (xs[i]).2)]].length)) (F68.L3 (k+2) (C (k+2)) n (IntKind.i64.wrap ((i:Int)+1)) a (A1 xs) [] [] a (A1 (xs.take i)++[[D.int IntKind.i64 (xs[i]).1,D.list 1 (I1 (xs[i]).2)]])) none=_
   rw [ite'_t (zY (by rw [zq,List.length_take];simp only [List.length_cons,List.length_nil];omega)),zE hi (m:=xs.length) (by omega),zh8]
   exact this
 exact main xs.length 0 (k+2) (by omega) (by omega)
theorem zjI (x y:Atom):cmpF x y=cmpA x y:=by unfold cmpF cmpA;rw [zlH]
theorem ziz (x y:Atom):cmpF x y=0↔x=y:=by
 unfold cmpF
 constructor
 ·intro h
  by_cases h1:x.1 < y.1
  ·rw [if_pos h1] at h;omega
  ·rw [if_neg h1] at h
   by_cases h2:x.1 > y.1
   ·rw [if_pos h2] at h;omega
   ·rw [if_neg h2] at h
    exact Prod.ext (by omega) ((zcQ _ _).1 h)
 ·rintro rfl
  rw [if_neg (by omega),if_neg (by omega)]
  exact (zcQ _ _).2 rfl
theorem c173 {a:Ovi.Rows} (xs:List Atom) (f:Atom) (hx:∀ x∈xs,x.2.length≤1048576) (hl:xs.length≤1048576) (hk:2000000≤k):∃ n,C (k+4) 173 [.agg [.d (.list 3 a),.d (.list 2 (A1 xs))],.agg [.d (.int .i64 f.1),.d (.list 1 (I1 f.2))]]=io n∧(n ≥ 0↔f∈xs):=by
 have hmax:(1048576:Nat)≤maxLen:=by decide
 rw [F173.run]
 have:=zas (xs:=xs) (L:=fun n i=>F173.L2 (k+3) (C (k+3)) n i a (A1 xs) f.1 (I1 f.2)) (stop:=fun _ x=>decide (x=f)) (hit:=fun i=>io (i:Int)) (fin:=io (-1))
  (fun n i x hxi=>by
   have hi:=(List.getElem?_eq_some_iff.1 hxi).1
   have hxl:=hx x (List.mem_of_getElem? hxi)
   rw [F173.L2.succ,zq,ite'_t (lt_t hi),ite'_t (zo hi),zaU hxi,zd,zaV hxi,zh,c105 (k:=k+1) x f (by omega) (by omega),iB',zE hi (m:=xs.length) (by omega)]
   have:(cmpF x f==0)=decide (x=f):=by
    rw [Bool.eq_iff_iff,beq_iff_eq,decide_eq_true_eq]
    exact ziz x f
   rw [this];rfl)
  (fun n=>by rw [F173.L2.succ,zq,ite'_f (lt_f (by omega))];rfl) (k+3) (by omega)
 rcases this with ⟨i,x,hxi,hst,e⟩ | ⟨hst,e⟩
 ·refine ⟨(i:Int),e,?_⟩
  simp only [decide_eq_true_eq] at hst
  subst hst
  exact ⟨fun _=>List.mem_of_getElem? hxi,fun _=>by omega⟩
 ·refine ⟨-1,e,?_⟩
  constructor
  ·intro h;omega
  ·intro h
   obtain ⟨i,hi⟩:=List.mem_iff_getElem?.1 h
   have:=hst i f hi
   simp at this
theorem c125 {a:Ovi.Rows} (xs:List Atom) (f:Atom) (hS:SSA xs) (hx:∀ x∈xs,x.2.length≤1048576) (hf:f.2.length≤1048576) (hl:xs.length≤1000000) (hk:2000000≤k) :
  ∃ r ws,C (k+5) 125 [.agg [.d (.list 3 a),.d (.list 2 (A1 xs))],.agg [.d (.int .i64 f.1),.d (.list 1 (I1 f.2))]]=some r∧resL 3 1 true 2 r 0 0=some a∧resL 2 1 true 2 r 0 1=some (A1 ws)∧SSA ws∧(∀ z,z∈ws↔z∈xs∨z=f)∧ws.length≤xs.length+1:=by
 have hmax:(1048576:Nat)≤maxLen:=by decide
 obtain ⟨n,e77,hn⟩:=c173 (k:=k) (a:=a) xs f hx (by omega) hk
 rw [F125.run,e77,iB']
 by_cases h0:n ≥ 0
 ·rw [ite'_t (by simpa using h0)]
  have hm:=hn.1 h0
  refine ⟨_,xs,rfl,rfl,rfl,hS,fun z=>?_,by omega⟩
  constructor
  ·exact fun h=>.inl h
  ·rintro (h | rfl)
   ·exact h
   ·exact hm
 ·rw [ite'_f (by simpa using h0)]
  have hm:f ∉ xs:=fun h=>h0 (hn.2 h)
  have ins:∀ i:Nat,i≤xs.length→(∀ j y,j < i→xs[j]? = some y→ltA y f=true)→(∀ y,xs[i]? = some y→ltA y f=false) →
    ∃ r ws,(ite' (inS (i:Int) ((A1 xs).length:Int) (A1 xs).length) (ite' (fits ([[D.int IntKind.i64 f.1,D.list 1 (I1 f.2)]].length+(List.drop (i:Int).toNat (A1 xs)).length)) (ite' (inS (0:Int) (i:Int) (A1 xs).length) (ite' (fits (List.take (i:Int).toNat (A1 xs)).length) (ite' (fits ((List.take (i:Int).toNat (A1 xs)).length+List.length ([[D.int IntKind.i64 f.1,D.list 1 (I1 f.2)]]++List.drop (i:Int).toNat (A1 xs)))) (some ([(true,[RL.d (D.list 3 a),RL.row 114 2 (List.take (i:Int).toNat (A1 xs)++([[D.int IntKind.i64 f.1,D.list 1 (I1 f.2)]]++List.drop (i:Int).toNat (A1 xs)))])])) (none)) (none)) (none)) (none)) (none))=some r∧resL 3 1 true 2 r 0 0=some a∧resL 2 1 true 2 r 0 1=some (A1 ws)∧SSA ws∧(∀ z,z∈ws↔z∈xs∨z=f)∧ws.length≤xs.length+1:=by
   intro i hi hlt hge
   rw [Int.toNat_natCast,zq,zng,znf,ite'_t (by simp only [inS,decide_eq_true_eq];omega),ite'_t (zY (by rw [zq,List.length_drop];simp;omega)),ite'_t (by simp only [inS,decide_eq_true_eq];omega),ite'_t (zY (by rw [zq,List.length_take];omega)),ite'_t (zY (by rw [zq,List.length_take,List.length_append,zq,List.length_drop];simp;omega))]
   have e:A1 (xs.take i)++([[D.int IntKind.i64 f.1,D.list 1 (I1 f.2)]]++A1 (xs.drop i))=A1 (xs.take i++f::xs.drop i):=by simp [A1]
   rw [e]
   refine ⟨_,xs.take i++f::xs.drop i,rfl,rfl,rfl,znL hS hm hlt hge,fun z=>znF i,?_⟩
   simp only [List.length_append,List.length_cons,List.length_take,List.length_drop];omega
  have main:∀ (m i n:Nat),i+m=xs.length→m < n→(∀ j y,j < i→xs[j]? = some y→ltA y f=true)→∃ r ws,F125.L4 (k+4) (C (k+4)) n (i:Int) a (A1 xs) f.1 (I1 f.2) [] []=some r∧resL 3 1 true 2 r 0 0=some a∧resL 2 1 true 2 r 0 1=some (A1 ws)∧SSA ws∧(∀ z,z∈ws↔z∈xs∨z=f)∧ws.length≤xs.length+1:=by
   intro m
   induction m with
   | zero =>
    intro i n hm' hn' hlt
    obtain ⟨n,rfl⟩:∃ j,n=j+1:=⟨n - 1,by omega⟩
    obtain rfl:i=xs.length:=by omega
    have h0:decide (((xs.length:Nat):Int) < ((A1 xs).length:Int))=false:=by rw [zq];exact lt_f (by omega)
    rw [F125.L4.succ,h0,ite'_f rfl,c116 (k:=k+3) f hf]
    exact ins xs.length (Nat.le_refl _) hlt (fun y hy=>by rw [List.getElem?_eq_none (Nat.le_refl _)] at hy;cases hy)
   | succ m ih =>
    intro i n hm' hn' hlt
    obtain ⟨n,rfl⟩:∃ j,n=j+1:=⟨n - 1,by omega⟩
    have hi:i < xs.length:=by omega
    have hg:=List.getElem?_eq_getElem hi
    have hxl:=hx _ (List.getElem_mem hi)
    have h0:decide ((i:Int) < ((A1 xs).length:Int))=true:=by rw [zq];exact lt_t hi
    have h1:inR (i:Int) (A1 xs).length=true:=by rw [zq];exact zo hi
    rw [F125.L4.succ,h0,ite'_t rfl,h1,ite'_t rfl,zaU hg,zd,zaV hg,zh,c105 (k:=k+2) xs[i] f (by omega) (by omega),iB']
    by_cases hc:cmpF xs[i] f < 0
    ·rw [ite'_t (by simpa using hc),zE hi (m:=xs.length) (by omega)]
     refine ih (i+1) n (by omega) (by omega) fun j y hj hy=>?_
     by_cases hji:j=i
     ·subst hji
      rw [hg] at hy;cases hy
      unfold ltA
      rw [← zjI,decide_eq_true_eq];exact hc
     ·exact hlt j y (by omega) hy
    ·rw [ite'_f (by simpa using hc),c116 (k:=k+3) f hf]
     refine ins i (by omega) hlt fun y hy=>?_
     rw [hg] at hy;cases hy
     unfold ltA
     rw [← zjI,decide_eq_false_iff_not];exact hc
  exact main xs.length 0 (k+4) (by omega) (by omega) (fun j y hj=>by omega)
end Go.Proofs.YtiacahdabflcdaaGreat.Q
namespace Go.Proofs.YtiacahdabflcdaaGreat.Q
open Go Ovi
variable {k:Nat}
variable {a:Ovi.Rows} {xs:List Atom} {ib:Bool}
end Go.Proofs.YtiacahdabflcdaaGreat.Q
namespace Go.Proofs.YtiacahdabflcdaaGreat.Q
open Go Ovi
variable {k:Nat}
theorem zmX {a:Ovi.Rows} {xs:List Atom} {valid:Atom→Bool} (n:Int) (hv:zdK a xs valid) (hk:2000000≤k) (ha:a.length≤1048576) (hs:zD xs+xs.length≤1048576) :
  C (k+9) 136 [.d (.list 3 a),.d (.list 2 (A1 xs)),.d (.int .i64 n)]=bo (decide ((1:Int)≤(xs.length:Int)∧(xs.length:Int)≤n)&&xs.all valid):=by
 have hmax:(1048576:Nat)≤maxLen:=by decide
 rw [F136.run,c128,bB,zq]
 cases decide ((1:Int)≤(xs.length:Int)∧(xs.length:Int)≤n) with
 | false=>rfl
 | true =>
  rw [ite'_t rfl,c139 (k:=k+6) xs 178 [[.list 3 a]] (fun x=>!valid x) (by omega) (by omega) (fun x hx=>by
   have:=zah hx
   rw [List.map_cons,List.map_nil,F178.run,(hv x hx k (by omega) (by omega)).1,bB];rfl),bB]
  exact zaB (zcz xs valid)
structure DepOk (a:Ovi.Rows) (body head:List Atom) (egd:Bool) (l r:Int):Prop where
 b1:1≤body.length
 b2:body.length≤2
 bv:∀ x∈body,(0≤x.1∧x.1 < (a.length:Int))∧(x.2.length:Int)=ar a x.1∧okT x.2
 e:egd=true→head=[]∧z8 body l∧z8 body r
 bV:zdK a body (fun _=>true)
 tV:egd=false→1≤head.length∧zdK a head (fun _=>true)
 t:egd=false→head.length≤2∧∀ x∈head,(0≤x.1∧x.1 < (a.length:Int))∧(x.2.length:Int)=ar a x.1∧okT x.2
theorem zik {a:Ovi.Rows} {body:List Atom} {z:Int} (hb:∀ x∈body,(0≤x.1∧x.1 < (a.length:Int))∧(x.2.length:Int)=ar a x.1∧okT x.2) (h:z8 body z):0≤z∧z≤4:=by
 obtain ⟨h0,x,hx,hz⟩:=h
 exact ⟨h0,((hb x hx).2.2 z hz).2⟩
theorem dep {a:Ovi.Rows} (ha:Fit Rl (.list 3 a)) (hal:a.length≤1048576) (body head:List Atom) (egd:Bool) (l r:Int) (hsb:zD body+body.length≤1048576) (hsh:zD head+head.length≤1048576) :
  ∃ b,(b=true→DepOk a body head egd l r)∧∀ k,2000000≤k→C (k+12) 81 [.d (.list 3 a),.agg [.d (.list 2 (A1 body)),.d (.list 2 (A1 head)),.d (.bool egd),.d (.int .i64 l),.d (.int .i64 r)]]=bo b∧C (k+12) 108 [.d (.list 3 a),.agg [.d (.list 2 (A1 body)),.d (.list 2 (A1 head)),.d (.bool egd),.d (.int .i64 l),.d (.int .i64 r)]]=bo b:=by
 have hmax:(1048576:Nat)≤maxLen:=by decide
 obtain ⟨vb,hvb,hVb⟩:=zkm ha body (fun x hx=>by have:=zah hx;omega)
 obtain ⟨vh,hvh,hVh⟩:=zkm ha head (fun x hx=>by have:=zah hx;omega)
 have e89:∀ k,2000000≤k→C (k+11) 136 [.d (.list 3 a),.d (.list 2 (A1 body)),.d (.int .i64 2)]=bo (decide ((1:Int)≤(body.length:Int)∧(body.length:Int)≤2)&&body.all vb):=fun k hk=>zmX (k:=k+2) 2 hVb (by omega) hal hsb
 have e89h:∀ k,2000000≤k→C (k+11) 136 [.d (.list 3 a),.d (.list 2 (A1 head)),.d (.int .i64 2)]=bo (decide ((1:Int)≤(head.length:Int)∧(head.length:Int)≤2)&&head.all vh):=fun k hk=>zmX (k:=k+2) 2 hVh (by omega) hal hsh
 have L4:∀ k,2000000≤k→∀ fin,(∀ n,F108.L4 (k+11) (C (k+11)) (n+1) a (body.length:Int) (A1 body) (A1 head) egd l r=fin)→F108.L4 (k+11) (C (k+11)) (k+11) a 0 (A1 body) (A1 head) egd l r=cond (body.any fun x=>!vb x) (bo false) fin:=fun k hk fin hfin =>
  zbE (xs:=body) (L:=fun n i=>F108.L4 (k+11) (C (k+11)) n a i (A1 body) (A1 head) egd l r) (stop:=fun x=>!vb x) (hit:=bo false) (fin:=fin)
   (fun n i x hx=>by
    have hi:=(List.getElem?_eq_some_iff.1 hx).1
    have:=zah (List.mem_of_getElem? hx)
    rw [F108.L4.succ,zq,ite'_t (lt_t hi),ite'_t (zo hi),zaU hx,zd,zaV hx,zh,(hVb x (List.mem_of_getElem? hx) (k+6) (by omega) (by omega)).2,bB,zE hi (m:=body.length) (by omega)];rfl)
   hfin (k+11) (by omega)
 have hbv:body.all vb=true→∀ x∈body,(0≤x.1∧x.1 < (a.length:Int))∧(x.2.length:Int)=ar a x.1∧okT x.2:=fun h x hx=>hvb x hx (List.all_eq_true.1 h x hx)
 have hhv:head.all vh=true→∀ x∈head,(0≤x.1∧x.1 < (a.length:Int))∧(x.2.length:Int)=ar a x.1∧okT x.2:=fun h x hx=>hvh x hx (List.all_eq_true.1 h x hx)
 cases hb12:decide ((1:Int)≤(body.length:Int)∧(body.length:Int)≤2) with
 | false =>
  refine ⟨false,fun h=>(by cases h),fun k hk=>?_⟩
  rw [F81.run,F108.run,e89 k hk,bB,c157,bB]
  simp only [zq,hb12,Bool.false_and,Bool.not_false]
  exact ⟨rfl,rfl⟩
 | true =>
  have h12:=of_decide_eq_true hb12
  cases hall:body.all vb with
  | false =>
   refine ⟨false,fun h=>(by cases h),fun k hk=>?_⟩
   have hany:(body.any fun x=>!vb x)=true:=by rw [← zcz] at hall;simpa using hall
   rw [F81.run,F108.run,e89 k hk,bB,c157,bB]
   simp only [zq,hb12,hall,Bool.and_true,Bool.and_false,Bool.true_and,Bool.false_and,Bool.not_true,Bool.not_false]
   refine ⟨rfl,?_⟩
   rw [ite'_f rfl]
   rw [L4 k hk _ (fun n=>by rw [F108.L4.succ,zq,ite'_f (lt_f (by omega))]),hany];rfl
  | true =>
   have hany:(body.any fun x=>!vb x)=false:=by rw [← zcz] at hall;simpa using hall
   have hB:=hbv hall
   have hBV:zdK a body (fun _=>true):=fun x hx k h1 h2=>by have:=hVb x hx k h1 h2;rw [List.all_eq_true.1 hall x hx] at this;exact this
   cases egd with
   | true =>
    refine ⟨decide (head=[])&&(decide (l < r)&&(@decide (z8 body l) (Classical.propDecidable _)&&@decide (z8 body r) (Classical.propDecidable _))),fun h=>?_,fun k hk=>?_⟩
    ·simp only [Bool.and_eq_true] at h
     obtain ⟨h1,h2,h3,h4⟩:=h
     have h3:=@of_decide_eq_true _ (Classical.propDecidable _) h3
     have h4:=@of_decide_eq_true _ (Classical.propDecidable _) h4
     exact ⟨by omega,by omega,hB,fun _=>⟨of_decide_eq_true h1,h3,h4⟩,hBV,(fun h=>by cases h),fun h=>by cases h⟩
    ·obtain ⟨v1,w1,w2,w3⟩:=c137 (k:=k+10) body (by omega) hsb
     obtain ⟨v2,u1,u2,u3⟩:=c154 (k:=k+9) body (by omega) hsb
     have d1:∀ z,decide (z∈v1)=@decide (z8 body z) (Classical.propDecidable _):=fun z=>zdJ w2 z
     have d2:∀ z,decide (z∈v2)=@decide (z8 body z) (Classical.propDecidable _):=fun z=>zdJ u2 z
     have hh:decide ((head.length:Int)=0)=decide (head=[]):=by
      rw [Bool.eq_iff_iff,decide_eq_true_eq,decide_eq_true_eq]
      constructor
      ·intro h;exact List.eq_nil_of_length_eq_zero (by omega)
      ·rintro rfl;rfl
     rw [F81.run,F108.run,e89 k hk,bB,c157,bB]
     simp only [zq,hb12,hall,Bool.and_true,Bool.and_false,Bool.true_and,Bool.false_and,Bool.not_true,Bool.not_false]
     constructor
     ·rw [ite'_f rfl,ite'_t rfl,w1]
      simp only [zl,zy,zh]
      rw [show ((head.length:Int)==0)=decide (head=[]) from hh,c138 (k:=k+9) v1 l (by omega) (by omega),c138 (k:=k+9) v1 r (by omega) (by omega),bB,bB,d1,d1]
      cases decide (head=[])<;>cases decide (l < r)<;>cases @decide (z8 body l) (Classical.propDecidable _)<;>cases @decide (z8 body r) (Classical.propDecidable _)<;>rfl
     ·rw [ite'_f rfl,L4 k hk _ (fun n=>by rw [F108.L4.succ,zq,ite'_f (lt_f (by omega)),ite'_t rfl,u1,zq]),hany]
      simp only [zl,zcu,zh,cond_false]
      rw [show ((head.length:Int)==0)=decide (head=[]) from hh,c156 (k:=k+10) v2 l (by omega) (by omega),c156 (k:=k+10) v2 r (by omega) (by omega),bB,bB,d2,d2]
      cases decide (head=[])<;>cases decide (l < r)<;>cases @decide (z8 body l) (Classical.propDecidable _)<;>cases @decide (z8 body r) (Classical.propDecidable _)<;>rfl
   | false =>
    have L12:∀ k,2000000≤k→F108.L12 (k+11) (C (k+11)) (k+11) a 0 (A1 body) (A1 head) false l r=cond (head.any fun x=>!vh x||src a x) (bo false) (bo (decide ((1:Int)≤(head.length:Int)∧(head.length:Int)≤2)&&(decide (l=0)&&decide (r=0)))):=fun k hk =>
     zbE (xs:=head) (L:=fun n i=>F108.L12 (k+11) (C (k+11)) n a i (A1 body) (A1 head) false l r) (stop:=fun x=>!vh x||src a x) (hit:=bo false)
      (fun n i x hx=>by
       have hi:=(List.getElem?_eq_some_iff.1 hx).1
       have hm:=List.mem_of_getElem? hx
       have:=zah hm
       rw [F108.L12.succ,zq,ite'_t (lt_t hi),ite'_t (zo hi),zaU hx,zd,zaV hx,zh,(hVh x hm (k+6) (by omega) (by omega)).2,bB,zE hi (m:=head.length) (by omega)]
       cases hvx:vh x with
       | false=>rfl
       | true =>
        obtain ⟨g1,g2⟩:=zhf ha (hvh x hm hvx).1
        rw [ite'_nt,ite'_t (zo hi),zd,g1,ite'_t rfl,g2,zu]
        cases src a x<;>rfl)
      (fun n=>by
       rw [F108.L12.succ,zq,ite'_f (lt_f (by omega)),c157,bB]
       have e1:(l==0)=decide (l=0):=rfl
       have e2:(r==0)=decide (r=0):=rfl
       rw [e1,e2]
       cases decide ((1:Int)≤(head.length:Int)∧(head.length:Int)≤2)<;>cases decide (l=0)<;>rfl) (k+11) (by omega)
    refine ⟨cond (head.any fun x=>!vh x||src a x) false (decide ((1:Int)≤(head.length:Int)∧(head.length:Int)≤2)&&(decide (l=0)&&decide (r=0))),fun h=>?_,fun k hk=>?_⟩
    ·cases hh:(head.any fun x=>!vh x||src a x) with
     | true=>rw [hh] at h;cases h
     | false =>
      rw [hh,cond_false] at h
      simp only [Bool.and_eq_true,decide_eq_true_eq] at h
      rw [List.any_eq_false] at hh
      have hvt:∀ x∈head,vh x=true:=fun x hx=>by
       have:=hh x hx
       cases hv:vh x with
       | true=>rfl
       | false=>rw [hv] at this;simp at this
      exact ⟨by omega,by omega,hB,(fun h=>by cases h),hBV,fun _=>⟨by omega,fun x hx k h1 h2=>by have:=hVh x hx k h1 h2;rw [hvt x hx] at this;exact this⟩,fun _=>⟨by omega,fun x hx=>hvh x hx (hvt x hx)⟩⟩
    ·rw [F81.run,F108.run,e89 k hk,bB,c157,bB]
     simp only [zq,hb12,hall,Bool.and_true,Bool.and_false,Bool.true_and,Bool.false_and,Bool.not_true,Bool.not_false]
     constructor
     ·rw [ite'_f rfl,ite'_f rfl,e89h k hk,bB]
      cases hha:head.all vh with
      | false =>
       have hany2:(head.any fun x=>!vh x||src a x)=true:=by
        rw [← zcz] at hha
        have h1:(head.any fun x=>!vh x)=true:=by simpa using hha
        obtain ⟨x,hx,hx2⟩:=List.any_eq_true.1 h1
        exact List.any_eq_true.2 ⟨x,hx,by rw [hx2];rfl⟩
       rw [hany2,Bool.and_false];rfl
      | true =>
       have hh2:=List.all_eq_true.1 hha
       have hany2:(head.any fun x=>!vh x||src a x)=head.any (src a):=by
        rw [Bool.eq_iff_iff,List.any_eq_true,List.any_eq_true]
        constructor
        ·rintro ⟨x,hx,h⟩
         rw [hh2 x hx] at h
         exact ⟨x,hx,by simpa using h⟩
        ·rintro ⟨x,hx,h⟩
         exact ⟨x,hx,by rw [h];simp⟩
       have e129:C (k+11) 139 [.d (.list 2 (A1 head)),.d (.fn 140 [[.list 3 a]])]=bo (head.any (src a)):=c139 (k:=k+9) head 140 [[.list 3 a]] (src a) (by omega) (by omega) (fun x hx=>by
        obtain ⟨g1,g2⟩:=zhf ha (hvh x hx (hh2 x hx)).1
        rw [List.map_cons,List.map_nil,F140.run,g1,ite'_t rfl,g2,zu];rfl)
       rw [hany2,Bool.and_true,e129,bB]
       have e1:(l==0)=decide (l=0):=rfl
       have e2:(r==0)=decide (r=0):=rfl
       rw [e1,e2]
       cases decide ((1:Int)≤(head.length:Int)∧(head.length:Int)≤2)<;>cases decide (l=0)<;>cases decide (r=0)<;>cases head.any (src a)<;>rfl
     ·rw [ite'_f rfl,L4 k hk _ (fun n=>by rw [F108.L4.succ,zq,ite'_f (lt_f (by omega)),ite'_f rfl,L12 k hk]),hany,cond_false]
      cases (head.any fun x=>!vh x||src a x)<;>rfl
end Go.Proofs.YtiacahdabflcdaaGreat.Q
namespace Go.Proofs.YtiacahdabflcdaaGreat.Q
open Go Ovi
variable {k:Nat}
structure Dep where
 body:List Atom
 head:List Atom
 egd:Bool
 l:Int
 r:Int
def DD (ds:List Dep):Ovi.Rows:=ds.map fun d=>[.list 2 (A1 d.body),.list 2 (A1 d.head),.bool d.egd,.int .i64 d.l,.int .i64 d.r]
theorem za0 (ds:List Dep):(DD ds).length=ds.length:=by simp [DD]
theorem zd5 {ds:List Dep} {i:Nat} {d:Dep} (h:ds[i]? = some d):(DD ds)[i]? = some [.list 2 (A1 d.body),.list 2 (A1 d.head),.bool d.egd,.int .i64 d.l,.int .i64 d.r]:=by simp [DD,h]
section
variable {ds:List Dep} {i:Nat} {d:Dep}
theorem DD_0 (h:ds[i]? = some d):zw 2 (DD ds) (i:Int).toNat 0=some (A1 d.body):=by rw [Int.toNat_natCast,zab (zd5 h)];simp [zN]
theorem DD_1 (h:ds[i]? = some d):zw 2 (DD ds) (i:Int).toNat 1=some (A1 d.head):=by rw [Int.toNat_natCast,zab (zd5 h)];simp [zN]
theorem DD_2 (h:ds[i]? = some d):zan (DD ds) (i:Int).toNat 2=some d.egd:=by rw [Int.toNat_natCast,zau (zd5 h)];simp [zV]
theorem DD_3 (h:ds[i]? = some d):zm .i64 (DD ds) (i:Int).toNat 3=some d.l:=by rw [Int.toNat_natCast,zF (zd5 h)];simp [zz]
theorem DD_4 (h:ds[i]? = some d):zm .i64 (DD ds) (i:Int).toNat 4=some d.r:=by rw [Int.toNat_natCast,zF (zd5 h)];simp [zz]
end
def da (d:Dep):AV:=.agg [.d (.list 2 (A1 d.body)),.d (.list 2 (A1 d.head)),.d (.bool d.egd),.d (.int .i64 d.l),.d (.int .i64 d.r)]
def Dsz (d:Dep):Prop:=zD d.body+d.body.length≤1048576∧zD d.head+d.head.length≤1048576
theorem deps {a:Ovi.Rows} (ha:Fit Rl (.list 3 a)) (hal:a.length≤1048576) (ds:List Dep) (hz:∀ d∈ds,Dsz d) (hl:ds.length≤1048576) :
  ∃ b,(b=true→ds.length≤5∧∀ d∈ds,DepOk a d.body d.head d.egd d.l d.r∧∀ k,2000000≤k→C (k+12) 81 [.d (.list 3 a),da d]=bo true∧C (k+12) 108 [.d (.list 3 a),da d]=bo true) ∧
   ∀ k,2000000≤k→C (k+16) 41 [.d (.list 3 a),.d (.list 5 (DD ds))]=bo b∧C (k+16) 59 [.d (.list 3 a),.d (.list 5 (DD ds))]=bo b:=by
 have hmax:(1048576:Nat)≤maxLen:=by decide
 obtain ⟨rb,hrb⟩:=rels ha
 have:∀ d:Dep,∃ b,d∈ds→(b=true→DepOk a d.body d.head d.egd d.l d.r)∧∀ k,2000000≤k→C (k+12) 81 [.d (.list 3 a),da d]=bo b∧C (k+12) 108 [.d (.list 3 a),da d]=bo b:=by
  intro d
  by_cases h:d∈ds
  ·obtain ⟨b,hb⟩:=dep ha hal d.body d.head d.egd d.l d.r (hz d h).1 (hz d h).2
   exact ⟨b,fun _=>hb⟩
  ·exact ⟨false,fun h'=>absurd h' h⟩
 obtain ⟨vd,hvd⟩:=Classical.axiomOfChoice this
 refine ⟨rb&&(decide ((ds.length:Int)≤5)&&ds.all vd),fun h=>?_,fun k hk=>?_⟩
 ·simp only [Bool.and_eq_true,decide_eq_true_eq,List.all_eq_true] at h
  refine ⟨by omega,fun d hd=>?_⟩
  obtain ⟨h1,h2⟩:=hvd d hd
  have e:=h.2.2 d hd
  refine ⟨h1 e,fun k hk=>?_⟩
  have:=h2 k hk
  rw [e] at this
  exact this
 ·have e87:C (k+15) 79 [.d (.list 5 (DD ds)),.d (.fn 80 [[.list 3 a]])]=bo (ds.any fun d=>!vd d):=by
   rw [F79.run,F135.run,za0]
   have:=zas (xs:=ds) (L:=fun n i=>F135.L2 (k+13) (C (k+13)) n (DD ds) 80 [[.list 3 a]] (ds.length:Int) i) (stop:=fun _ d=>!vd d) (hit:=fun i=>some [(false,[.d (.int .i64 (i:Int))])]) (fin:=some [(false,[.d (.int .i64 (-1))])])
    (fun n i d hx=>by
     have hi:=(List.getElem?_eq_some_iff.1 hx).1
     have hm:=List.mem_of_getElem? hx
     have e88:C (k+13) 80 [da d,.cap [.list 3 a] 0]=bo (!vd d):=by
      show C (k+12+1) 80 [.agg [.d (.list 2 (A1 d.body)),.d (.list 2 (A1 d.head)),.d (.bool d.egd),.d (.int .i64 d.l),.d (.int .i64 d.r)],.cap [.list 3 a] 0]=_
      rw [F80.run]
      have:=((hvd d hm).2 k hk).1
      unfold da at this
      rw [this,bB];rfl
     rw [F135.L2.succ,za0,ite'_t (lt_t hi),ite'_t (zo hi),DD_0 hx,zh,DD_1 hx,zh,DD_2 hx,zu,DD_3 hx,zd,DD_4 hx,zd,zE hi (m:=ds.length) (by omega)]
     unfold da at e88
     simp only [List.map_cons,List.map_nil,List.append_eq,List.nil_append] at e88 ⊢
     rw [e88,bB];rfl)
    (fun n=>by rw [F135.L2.succ,ite'_f (lt_f (by omega))]) (k+13) (by omega)
   rcases this with ⟨i,x,hx,hst,e⟩ | ⟨hst,e⟩
   ·rw [show F135.L2 (k+13) (C (k+13)) (k+13) (DD ds) 80 [[.list 3 a]] (ds.length:Int) 0=_ from e]
    simp only [zl,zx,zd]
    exact zaB (by rw [List.any_eq_true.2 ⟨x,List.mem_of_getElem? hx,hst⟩];simp)
   ·rw [show F135.L2 (k+13) (C (k+13)) (k+13) (DD ds) 80 [[.list 3 a]] (ds.length:Int) 0=_ from e]
    simp only [zl,zx,zd]
    refine zaB ?_
    rw [List.any_eq_false.2 (fun x hx=>?_)]
    ·rfl
    ·obtain ⟨i,hi⟩:=List.mem_iff_getElem?.1 hx
     simpa using hst i x hi
  constructor
  ·rw [F41.run,(hrb (k+12) (by omega)).1,bB,za0,e87,bB]
   cases rb with
   | false=>rfl
   | true =>
    rw [ite'_t rfl]
    cases decide ((ds.length:Int)≤5) with
    | false=>rfl
    | true =>
     rw [ite'_t rfl]
     exact zaB (zcz ds vd)
  ·rw [F59.run]
   have:=zbE (xs:=ds) (L:=fun n i=>F59.L2 (k+15) (C (k+15)) n a (DD ds) i) (stop:=fun d=>!vd d) (hit:=bo false) (fin:=bo (rb&&decide ((ds.length:Int)≤5)))
    (fun n i d hx=>by
     have hi:=(List.getElem?_eq_some_iff.1 hx).1
     have hm:=List.mem_of_getElem? hx
     have e68:=((hvd d hm).2 (k+3) (by omega)).2
     unfold da at e68
     rw [F59.L2.succ,za0,ite'_t (lt_t hi),ite'_t (zo hi),DD_0 hx,zh,DD_1 hx,zh,DD_2 hx,zu,DD_3 hx,zd,DD_4 hx,zd,zE hi (m:=ds.length) (by omega)]
     rw [show (C (k+15) 108 [.d (.list 3 a),.agg [.d (.list 2 (A1 d.body)),.d (.list 2 (A1 d.head)),.d (.bool d.egd),.d (.int .i64 d.l),.d (.int .i64 d.r)]])=bo (vd d) from e68,bB];rfl)
    (fun n=>by
     rw [F59.L2.succ,za0,ite'_f (lt_f (by omega)),(hrb (k+12) (by omega)).2,bB]
     cases rb<;>rfl) (k+15) (by omega)
   rw [show F59.L2 (k+15) (C (k+15)) (k+15) a (DD ds) 0=_ from this,← zcz ds vd]
   cases (ds.any fun d=>!vd d)<;>cases rb<;>cases decide ((ds.length:Int)≤5)<;>rfl
end Go.Proofs.YtiacahdabflcdaaGreat.Q
namespace Go.Proofs.YtiacahdabflcdaaGreat.Q
open Go Ovi
variable {k:Nat}
theorem zcA (n:Int):(n != n)=false:=by simp
theorem c64 {xs ys:Ovi.Rows} {m m':Int} (h:zO zaT xs m=some (ys,m')) (h0:0≤m) (h1:m'≤4611686018427387904) (hl:ys.length≤1048576) (hk:2000000≤k):C (k+1) 64 [.d (.list 1 ys),.d (.int .i64 m)]=some [(false,[.d (.int .i64 m')])]:=by
 have hmax:(1048576:Nat)≤maxLen:=by decide
 obtain ⟨κ,q0,q1,q2,q3⟩:=zbV h
 rw [F64.run]
 have key:∀ (a i n:Nat),i+a=ys.length→a < n→F64.L2 k (C k) n ys (κ i) (i:Int)=some [(false,[.d (.int .i64 m')])]:=by
  intro a
  induction a with
  | zero =>
   intro i n hm hn
   obtain ⟨n,rfl⟩:∃ j,n=j+1:=⟨n - 1,by omega⟩
   obtain rfl:i=ys.length:=by omega
   rw [F64.L2.succ,ite'_f (lt_f (by omega)),q1]
  | succ a ih =>
   intro i n hm hn
   obtain ⟨n,rfl⟩:∃ j,n=j+1:=⟨n - 1,by omega⟩
   have hi:i < ys.length:=by omega
   obtain ⟨r,r',p1,p2,p3⟩:=q3 i hi
   obtain ⟨z,_,rfl,e⟩:=zdH p3
   have b1:=zbS zaY q3 (Nat.zero_le i) (by omega)
   have b2:=zbS zaY q3 (show i+1≤ys.length by omega) (Nat.le_refl _)
   rw [F64.L2.succ,ite'_t (lt_t hi),ite'_t (zo hi)]
   simp only [Int.toNat_natCast,zF p2,List.getElem?_cons_zero,Option.bind_some,zz,zd]
   rw [ite'_f (zcA _),zac (by omega) (by omega),zaj (m:=ys.length) (by omega) (by omega) (by omega),show ((i:Int)+1)=((i+1:Nat):Int) by omega,← e]
   exact ih (i+1) n (by omega) (by omega)
 have:=key ys.length 0 k (by omega) (by omega)
 rwa [q0] at this
theorem zpn (n:Nat):zd7 [[D.int .u8 (IntKind.u8.wrap (IntKind.i64.wrap ((48:Int)+((n:Int)).tmod 10)))]]=some [UInt8.ofNat (48+n % 10)]:=by
 have h1:((n:Int)).tmod 10=((n % 10:Nat):Int):=by
  rw [Int.tmod_eq_emod_of_nonneg (by omega)];omega
 have h2:n % 10 < 10:=Nat.mod_lt _ (by decide)
 rw [h1]
 generalize n % 10=d at h2
 match d,h2 with
 | 0,_=>rfl
 | 1,_=>rfl
 | 2,_=>rfl
 | 3,_=>rfl
 | 4,_=>rfl
 | 5,_=>rfl
 | 6,_=>rfl
 | 7,_=>rfl
 | 8,_=>rfl
 | 9,_=>rfl
theorem l99 (k:Nat) (call:zi):∀ (f n K:Nat) (acc:List UInt8),f < K→n < 10 ^ f→n≤4611686018427387904→acc.length+f≤1000→F97.L4 k call K (n:Int) acc=some [(false,[.d (.str (109::digs f n acc))])]:=by
 intro f
 induction f with
 | zero =>
  intro n K acc hK hn _ hl
  obtain ⟨K,rfl⟩:∃ j,K=j+1:=⟨K - 1,by omega⟩
  obtain rfl:n=0:=by simpa using hn
  rw [F97.L4.succ,ite'_f (by decide),ite'_t (zY (by omega))]
  rfl
 | succ f ih =>
  intro n K acc hK hn hn2 hl
  obtain ⟨K,rfl⟩:∃ j,K=j+1:=⟨K - 1,by omega⟩
  by_cases h0:n=0
  ·subst h0
   rw [F97.L4.succ,ite'_f (by decide),ite'_t (zY (by omega))]
   rfl
  ·have hd:IntKind.i64.wrap (((n:Int)).tdiv 10)=((n / 10:Nat):Int):=by
    rw [Int.tdiv_eq_ediv_of_nonneg (by omega),zac (by omega) (by omega)];omega
   rw [F97.L4.succ,ite'_t (by simp only [decide_eq_true_eq];omega),zpn,zG,hd]
   rw [ite'_t (zY (by simp only [List.length_cons,List.length_nil];omega))]
   have h10:n / 10 < 10 ^ f:=by
    rw [Nat.pow_succ] at hn
    exact Nat.div_lt_of_lt_mul (by omega)
   rw [ih (n / 10) K ([UInt8.ofNat (48+n % 10)]++acc) (by omega) h10 (by omega) (by simp only [List.length_append,List.length_cons,List.length_nil];omega)]
   simp only [digs,if_neg h0,List.singleton_append]
theorem e103 (k:Nat) (call:zi) (m:Int) (h0:0≤m) (h1:m≤4611686018427387904) (hk:2000≤k):zc5 P hs call 97 k Tryz.f97 [.d (.int .i64 m)]=some [(false,[.d (.str (mt m))])]:=by
 rw [F97.eq]
 by_cases hm:m≤0
 ·rw [ite'_t (by simpa using hm)]
  simp only [mt,if_pos hm]
 ·rw [ite'_f (by simpa using hm)]
  obtain ⟨n,rfl⟩:∃ n:Nat,m=n:=⟨m.toNat,by omega⟩
  rw [l99 k call 64 n k [] (by omega) (Nat.lt_of_le_of_lt (show n≤4611686018427387904 by omega) (by decide)) (by omega) (by simp)]
  simp only [mt,if_neg hm,Int.toNat_natCast]
theorem c97 (m:Int) (h0:0≤m) (h1:m≤4611686018427387904) (hk:2000≤k):C (k+1) 97 [.d (.int .i64 m)]=some [(false,[.d (.str (mt m))])]:=(F97.run k m).trans ((F97.eq k (C k) m).symm.trans (e103 k (C k) m h0 h1 hk))
variable {k:Nat}
theorem c99 {xs ys:Ovi.Rows} {m m':Int} (h:zO zad xs m=some (ys,m')) (h0:0≤m) (h1:m'≤4611686018427387904) (hl:ys.length≤1048576) (hin:∀ r∈xs,∀ z l,r=[.int .i64 z,.list 1 l]→l.length≤1048576) (hk:2000000≤k):C (k+2) 99 [.d (.list 2 ys),.d (.int .i64 m)]=some [(false,[.d (.int .i64 m')])]:=by
 have hmax:(1048576:Nat)≤maxLen:=by decide
 obtain ⟨κ,q0,q1,q2,q3⟩:=zbV h
 rw [F99.run]
 have key:∀ (a i n:Nat),i+a=ys.length→a < n→F99.L2 (k+1) (C (k+1)) n ys (κ i) (i:Int)=some [(false,[.d (.int .i64 m')])]:=by
  intro a
  induction a with
  | zero =>
   intro i n hm hn
   obtain ⟨n,rfl⟩:∃ j,n=j+1:=⟨n - 1,by omega⟩
   obtain rfl:i=ys.length:=by omega
   rw [F99.L2.succ,ite'_f (lt_f (by omega)),q1]
  | succ a ih =>
   intro i n hm hn
   obtain ⟨n,rfl⟩:∃ j,n=j+1:=⟨n - 1,by omega⟩
   have hi:i < ys.length:=by omega
   obtain ⟨r,r',p1,p2,p3⟩:=q3 i hi
   obtain ⟨z,l,l',rfl,hm1,rfl⟩:=zbk p3
   have b1:=zbS zW q3 (Nat.zero_le i) (by omega)
   have b2:=zbS zW q3 (show i+1≤ys.length by omega) (Nat.le_refl _)
   have b3:=zU zaY hm1
   have b4:=hin _ (List.mem_of_getElem? p1) z l rfl
   rw [F99.L2.succ,ite'_t (lt_t hi),ite'_t (zo hi)]
   simp only [Int.toNat_natCast,zF p2,zab p2,List.getElem?_cons_zero,List.getElem?_cons_succ,Option.bind_some,zz,zN,zd,zh]
   rw [ite'_f (zcA _),ite'_t (zo hi),zac (n:=κ i+1) (by omega) (by omega),c64 hm1 (by omega) (by omega) (by omega) hk]
   simp only [zl,zx,zd]
   rw [ite'_f (zaC (by omega)),zaj (m:=ys.length) (by omega) (by omega) (by omega),show ((i:Int)+1)=((i+1:Nat):Int) by omega]
   exact ih (i+1) n (by omega) (by omega)
 have:=key ys.length 0 (k+1) (by omega) (by omega)
 rwa [q0] at this
theorem c54 {xs ys:Ovi.Rows} {m m':Int} (h:zO zad xs m=some (ys,m')) (h0:0≤m) (h1:m'≤4611686018427387904) (hl:ys.length≤1048576) (hin:∀ r∈xs,∀ z l,r=[.int .i64 z,.list 1 l]→l.length≤1048576) (hk:2000000≤k):C (k+2) 54 [.d (.list 2 ys),.d (.int .i64 m)]=some [(false,[.d (.int .i64 m')])]:=by
 have hmax:(1048576:Nat)≤maxLen:=by decide
 obtain ⟨κ,q0,q1,q2,q3⟩:=zbV h
 rw [F54.run]
 have key:∀ (a i n:Nat),i+a=ys.length→a < n→F54.L2 (k+1) (C (k+1)) n ys (κ i) (i:Int)=some [(false,[.d (.int .i64 m')])]:=by
  intro a
  induction a with
  | zero =>
   intro i n hm hn
   obtain ⟨n,rfl⟩:∃ j,n=j+1:=⟨n - 1,by omega⟩
   obtain rfl:i=ys.length:=by omega
   rw [F54.L2.succ,ite'_f (lt_f (by omega)),q1]
  | succ a ih =>
   intro i n hm hn
   obtain ⟨n,rfl⟩:∃ j,n=j+1:=⟨n - 1,by omega⟩
   have hi:i < ys.length:=by omega
   obtain ⟨r,r',p1,p2,p3⟩:=q3 i hi
   obtain ⟨z,l,l',rfl,hm1,rfl⟩:=zbk p3
   have b1:=zbS zW q3 (Nat.zero_le i) (by omega)
   have b2:=zbS zW q3 (show i+1≤ys.length by omega) (Nat.le_refl _)
   have b3:=zU zaY hm1
   have b4:=hin _ (List.mem_of_getElem? p1) z l rfl
   rw [F54.L2.succ,ite'_t (lt_t hi),ite'_t (zo hi)]
   simp only [Int.toNat_natCast,zF p2,zab p2,List.getElem?_cons_zero,List.getElem?_cons_succ,Option.bind_some,zz,zN,zd,zh]
   rw [ite'_f (zcA _),ite'_t (zo hi),zac (n:=κ i+1) (by omega) (by omega),c64 hm1 (by omega) (by omega) (by omega) hk]
   simp only [zl,zx,zd]
   rw [ite'_f (zaC (by omega)),zaj (m:=ys.length) (by omega) (by omega) (by omega),show ((i:Int)+1)=((i+1:Nat):Int) by omega]
   exact ih (i+1) n (by omega) (by omega)
 have:=key ys.length 0 (k+1) (by omega) (by omega)
 rwa [q0] at this
theorem zp3 {n:Int} (h:0≤n):n.tmod 3=n % 3:=Int.tmod_eq_emod_of_nonneg h
theorem c98 {xs ys:Ovi.Rows} {m m':Int} (h:zO (zaP mt) xs m=some (ys,m')) (h0:0≤m) (h1:m'≤4611686018427387904) (hl:ys.length≤1048576) (hk:2000000≤k):C (k+2) 98 [.d (.list 3 ys),.d (.int .i64 m)]=some [(false,[.d (.int .i64 m')])]:=by
 have hmax:(1048576:Nat)≤maxLen:=by decide
 obtain ⟨κ,q0,q1,q2,q3⟩:=zbV h
 rw [F98.run]
 have key:∀ (a i n:Nat),i+a=ys.length→a < n→F98.L2 (k+1) (C (k+1)) n ys (κ i) (i:Int)=some [(false,[.d (.int .i64 m')])]:=by
  intro a
  induction a with
  | zero =>
   intro i n hm hn
   obtain ⟨n,rfl⟩:∃ j,n=j+1:=⟨n - 1,by omega⟩
   obtain rfl:i=ys.length:=by omega
   rw [F98.L2.succ,ite'_f (lt_f (by omega)),q1]
  | succ a ih =>
   intro i n hm hn
   obtain ⟨n,rfl⟩:∃ j,n=j+1:=⟨n - 1,by omega⟩
   have hi:i < ys.length:=by omega
   obtain ⟨r,r',p1,p2,p3⟩:=q3 i hi
   obtain ⟨s,z,t,rfl,rfl,e⟩:=zdI p3
   have b1:=zbS zaZ q3 (Nat.zero_le i) (by omega)
   have b2:=zbS zaZ q3 (show i+1≤ys.length by omega) (Nat.le_refl _)
   rw [F98.L2.succ,ite'_t (lt_t hi),ite'_t (zo hi)]
   simp only [Int.toNat_natCast,zF p2,zaw p2,zau p2,List.getElem?_cons_zero,List.getElem?_cons_succ,Option.bind_some,zz,zX,zV,zd,zG,zu]
   rw [c97 (κ i) (by omega) (by omega) (by omega)]
   simp only [zl,zS,zG,bne_self_eq_false,beq_self_eq_true,Bool.not_true]
   rw [ite'_f rfl,ite'_t (zo hi),zac (n:=κ i+1) (by omega) (by omega),zac (n:=κ i+1+1) (by omega) (by omega),zac (n:=κ i+1+1+1) (by omega) (by omega),ite'_f (zcA _),ite'_t (zo hi),zp3 (by omega)]
   rw [ite'_f (by simp),zaj (m:=ys.length) (by omega) (by omega) (by omega),show ((i:Int)+1)=((i+1:Nat):Int) by omega,← e]
   exact ih (i+1) n (by omega) (by omega)
 have:=key ys.length 0 (k+1) (by omega) (by omega)
 rwa [q0] at this
theorem c53 {a b a' b':Ovi.Rows} {m m1 m':Int} (h1:zO (zaP mt) a m=some (a',m1)) (h2:zO zad b m1=some (b',m')) (h0:0≤m) (hb:m'≤4611686018427387904) (hl:a'.length≤1048576) (hl2:b'.length≤1048576) (hin:∀ r∈b,∀ z l,r=[.int .i64 z,.list 1 l]→l.length≤1048576) (hk:2000000≤k):C (k+3) 53 [.agg [.d (.list 3 a'),.d (.list 2 b')],.d (.int .i64 m)]=some [(false,[.d (.int .i64 m')])]:=by
 have u1:=(zU zaZ h1).1
 have u2:=(zU zW h2).1
 rw [F53.run,c98 h1 h0 (by omega) hl hk]
 simp only [zl,zx,zd]
 rw [ite'_f (zaC (by omega)),c99 h2 (by omega) hb hl2 hin hk]
 simp only [zl,zx,zd]
 rw [ite'_f (zaC (by omega))]
variable {k:Nat}
theorem zfX {α:Type} (c:Nat):∀ l:List α,(l.map fun _=>c).sum=c * l.length
 | []=>rfl
 | x::r=>by simp only [List.map_cons,List.sum_cons,List.length_cons,zfX c r,Nat.mul_add];omega
theorem zkJ (zs:List Int) (m:Int):∃ ys,zO zaT (I1 zs) m=some (ys,m+zs.length):=by
 obtain ⟨ys,h⟩:=zcr (step:=zaT) (c:=fun _=>1) (xs:=I1 zs) (fun r hr k=>by
  obtain ⟨z,_,rfl⟩:=List.mem_map.1 hr
  exact ⟨_,rfl⟩) m
 refine ⟨ys,?_⟩
 rw [h,zfX,zn,Nat.one_mul]
theorem zgh {a:Ovi.Rows} (ha:Fit Rl (.list 3 a)) (m:Int):∃ ys,zO (zaP mt) a m=some (ys,m+3 * a.length):=by
 obtain ⟨ys,h⟩:=zcr (step:=zaP mt) (c:=fun _=>3) (xs:=a) (fun r hr k=>by
  unfold Rl at ha
  simp only [Fit] at ha
  obtain ⟨x0,r0,rfl,h0,hf0⟩:=Fits.cons (ha.2.2 r hr)
  obtain ⟨x1,r1,rfl,h1,hf1⟩:=Fits.cons hf0
  obtain ⟨x2,r2,rfl,h2,hf2⟩:=Fits.cons hf1
  obtain rfl:=Fits.nil hf2
  obtain ⟨s,rfl,_⟩:=h0.str
  obtain ⟨z,rfl,_⟩:=h1.int
  obtain ⟨t,rfl⟩:=h2.bool
  exact ⟨[.str (mt k),.int .i64 (k+1),.bool ((k+1+1) % 3==0)],by simp only [zaP,Option.some.injEq,Prod.mk.injEq,true_and];omega⟩) m
 refine ⟨ys,?_⟩
 rw [h,zfX]
 simp only [Option.some.injEq,Prod.mk.injEq,true_and]
 omega
theorem zbT (xs:List Atom) (m:Int):∃ ys,zO zad (A1 xs) m=some (ys,m+(xs.length+zD xs:Nat)):=by
 obtain ⟨ys,h⟩:=zcr (step:=zad) (c:=fun r=>match r with | [_,.list _ l]=>1+l.length | _=>0) (xs:=A1 xs) (fun r hr k=>by
  obtain ⟨x,_,rfl⟩:=List.mem_map.1 hr
  obtain ⟨ys,h⟩:=zkJ x.2 (k+1)
  refine ⟨[.int .i64 k,.list 1 ys],?_⟩
  simp only [zad,h,Option.map_some,zn,Option.some.injEq,Prod.mk.injEq,true_and]
  omega) m
 refine ⟨ys,?_⟩
 rw [h]
 congr 2
 have:((A1 xs).map fun r=>match r with | [_,.list _ l]=>1+l.length | _=>0).sum=xs.length+zD xs:=by
  clear h
  induction xs with
  | nil=>rfl
  | cons x r ih =>
   simp only [A1,List.map_cons,List.sum_cons,List.length_cons,zD,zn] at ih ⊢
   omega
 rw [this]
theorem e17 {a f a' f':Ovi.Rows} {m1 m2:Int} (h1:zO (zaP mt) a 1=some (a',m1)) (h2:zO zad f m1=some (f',m2)) (hb:m2≤4611686018427387904):C (k+1) 17 [.var 0 0,.d (.bool true),.d (.int .i64 1),.d (.int .i64 ((112:Nat):Int)),.d (.list 3 a),.d (.int .i64 ((114:Nat):Int)),.d (.list 2 f)]=some [(false,[.row 112 3 a']),(false,[.row 114 2 f']),(false,[.d (.int .i64 m2)])]:=by
 rw [zfc (p:=za9 true (mkAg (zaO mt))) rfl]
 have hs:zaO mt [.list 3 a,.list 2 f] 1=some ([.list 3 a',.list 2 f'],m2):=by
  simp only [zaO,h1,Option.bind_some,h2,Option.map_some]
 have hp:za2 [.d (.int .i64 ((112:Nat):Int)),.d (.list 3 a),.d (.int .i64 ((114:Nat):Int)),.d (.list 2 f)]=some [.row 112 3 a,.row 114 2 f]:=rfl
 have hm:mkAg (zaO mt) [.row 112 3 a,.row 114 2 f] 1=some ([.row 112 3 a',.row 114 2 f'],m2):=by
  simp only [mkAg,List.map_cons,List.map_nil,toD,hs,Option.map_some,ofD]
 simp only [za9]
 rw [show (true==true&&decide ((0:Int)≤1))=true from rfl,cond_true,hp]
 simp only [Option.bind_some,hm,decide_eq_true hb,cond_true]
 rfl
theorem zd8 {a:Ovi.Rows} (ha:Fit Rl (.list 3 a)):depR 0 a=true:=by
 unfold Rl at ha
 simp only [Fit] at ha
 refine List.all_eq_true.2 fun r hr=>?_
 obtain ⟨x0,r0,rfl,h0,hf0⟩:=Fits.cons (ha.2.2 r hr)
 obtain ⟨x1,r1,rfl,h1,hf1⟩:=Fits.cons hf0
 obtain ⟨x2,r2,rfl,h2,hf2⟩:=Fits.cons hf1
 obtain rfl:=Fits.nil hf2
 obtain ⟨s,rfl,_⟩:=h0.str
 obtain ⟨z,rfl,_⟩:=h1.int
 obtain ⟨t,rfl⟩:=h2.bool
 rfl
theorem zaQ (xs:List Atom):depR 1 (A1 xs)=true:=by
 refine List.all_eq_true.2 fun r hr=>?_
 obtain ⟨x,_,rfl⟩:=List.mem_map.1 hr
 simp only [List.all_cons,List.all_nil,Bool.and_true,depD,Bool.true_and,List.all_eq_true]
 intro r hr y hy
 obtain ⟨z,_,rfl⟩:=List.mem_map.1 hr
 simp only [List.mem_singleton] at hy
 subst hy
 rfl
theorem zmq (zs:List Int):depR 0 (I1 zs)=true:=by
 refine List.all_eq_true.2 fun r hr=>?_
 obtain ⟨x,_,rfl⟩:=List.mem_map.1 hr
 rfl
def Dt:Ty:=.list [.list [.int .i64,.list [.int .i64]],.list [.int .i64,.list [.int .i64]],.bool,.int .i64,.int .i64]
theorem zjS {a:Ovi.Rows} (h:Fit Dt (.list 5 a)):∃ ds:List Dep,a=DD ds:=by
 simp only [Fit,Dt] at h
 replace h:=h.2.2
 induction a with
 | nil=>exact ⟨[],rfl⟩
 | cons r rs ih =>
  obtain ⟨d0,r0,rfl,h0,hr⟩:=Fits.cons (h r List.mem_cons_self)
  obtain ⟨d1,r1,rfl,h1,hr⟩:=Fits.cons hr
  obtain ⟨d2,r2,rfl,h2,hr⟩:=Fits.cons hr
  obtain ⟨d3,r3,rfl,h3,hr⟩:=Fits.cons hr
  obtain ⟨d4,r4,rfl,h4,hr⟩:=Fits.cons hr
  obtain rfl:=Fits.nil hr
  obtain ⟨b,rfl,hb⟩:=h0.list (n:=2) rfl
  obtain ⟨c,rfl,hc⟩:=h1.list (n:=2) rfl
  obtain ⟨e,rfl⟩:=h2.bool
  obtain ⟨x,rfl,_⟩:=h3.int
  obtain ⟨y,rfl,_⟩:=h4.int
  obtain ⟨bs,rfl,_⟩:=hb.atoms'
  obtain ⟨cs,rfl,_⟩:=hc.atoms'
  obtain ⟨ds,e⟩:=ih (fun x hx=>h x (List.mem_cons_of_mem _ hx))
  exact ⟨⟨bs,cs,_,x,y⟩::ds,by rw [e];rfl⟩
theorem zlI {ds:List Dep} (h:szD (.list 5 (DD ds))≤1048576):ds.length≤1048576∧∀ d∈ds,Dsz d:=by
 simp only [szD,za0] at h
 refine ⟨by omega,fun d hd=>?_⟩
 obtain ⟨i,hi⟩:=List.mem_iff_getElem?.1 hd
 have:=zbK (zd5 hi)
 simp only [szC,zbH] at this
 unfold Dsz
 have e1:szD (.list 2 (A1 d.body))=d.body.length+zD d.body:=zbH
 have e2:szD (.list 2 (A1 d.head))=d.head.length+zD d.head:=zbH
 omega
def fc (b:Ovi.Rows):Nat:=(b.map fun r=>match r with | [_,.list _ l]=>1+l.length | _=>0).sum
theorem zm1 (xs:List Atom):fc (A1 xs)=xs.length+zD xs:=by
 unfold fc
 induction xs with
 | nil=>rfl
 | cons x r ih =>
  simp only [A1,List.map_cons,List.sum_cons,List.length_cons,zD,zn] at ih ⊢
  omega
def dc (r:List D):Nat:=match r with
 | [.list _ b,.list _ h,_,_,_]=>fc b+fc h+3
 | _=>0
theorem zmh {α:Type} (c:α→Nat) (B:Nat):∀ l:List α,(∀ x∈l,c x≤B)→(l.map c).sum≤B * l.length
 | [],_=>by simp
 | x::r,h=>by
  have h1:=h x List.mem_cons_self
  have h2:=zmh c B r fun y hy=>h y (List.mem_cons_of_mem _ hy)
  simp only [List.map_cons,List.sum_cons,List.length_cons,Nat.mul_add,Nat.mul_one]
  omega
theorem zkD (ds:List Dep) (hz:∀ d∈ds,Dsz d) (m:Int):∃ ys m',zO zbd (DD ds) m=some (ys,m')∧m≤m'∧m'≤m+2097155 * (ds.length:Int):=by
 obtain ⟨ys,h⟩:=zcr (step:=zbd) (c:=dc) (xs:=DD ds) (fun r hr k=>by
  obtain ⟨d,_,rfl⟩:=List.mem_map.1 hr
  obtain ⟨b',hb⟩:=zbT d.body k
  obtain ⟨h',hh⟩:=zbT d.head (k+(d.body.length+zD d.body:Nat))
  refine ⟨[.list 2 b',.list 2 h',.bool ((k+(d.body.length+zD d.body:Nat)+(d.head.length+zD d.head:Nat)) % 3==0),.int .i64 (k+(d.body.length+zD d.body:Nat)+(d.head.length+zD d.head:Nat)+1),.int .i64 (k+(d.body.length+zD d.body:Nat)+(d.head.length+zD d.head:Nat)+1+1)],?_⟩
  simp only [zbd,hb,Option.bind_some,hh,Option.map_some,dc,zm1,Option.some.injEq,Prod.mk.injEq,true_and]
  omega) m
 refine ⟨ys,_,h,by omega,?_⟩
 have:=zmh dc 2097155 (DD ds) fun r hr=>by
  obtain ⟨d,hd,rfl⟩:=List.mem_map.1 hr
  have:=hz d hd
  unfold Dsz at this
  simp only [dc,zm1]
  omega
 rw [za0] at this
 omega
theorem e52 {a a':Ovi.Rows} {m m2:Int} (h1:zO zbd a m=some (a',m2)) (h0:0≤m) (hb:m2≤4611686018427387904):C (k+1) 18 [.var 0 0,.d (.bool false),.d (.int .i64 m),.d (.int .i64 ((76:Nat):Int)),.d (.list 5 a)]=some [(false,[.row 76 5 a']),(false,[.d (.int .i64 m2)])]:=by
 rw [zfc (p:=za9 false (mkLs 5 (zO zbd))) rfl]
 have hp:za2 [.d (.int .i64 ((76:Nat):Int)),.d (.list 5 a)]=some [.row 76 5 a]:=rfl
 have hm:mkLs 5 (zO zbd) [.row 76 5 a] m=some ([.row 76 5 a'],m2):=by
  simp only [mkLs,show Nat.beq 5 5=true from rfl,cond_true,h1,Option.map_some]
 simp only [za9]
 rw [show (false==false&&decide ((0:Int)≤m))=true by rw [decide_eq_true h0];rfl,cond_true,hp]
 simp only [Option.bind_some,hm,decide_eq_true hb,cond_true]
 rfl
theorem zjM (ds:List Dep):depR 2 (DD ds)=true:=by
 refine List.all_eq_true.2 fun r hr=>?_
 obtain ⟨d,_,rfl⟩:=List.mem_map.1 hr
 have hb:=zaQ d.body
 have hh:=zaQ d.head
 simp only [List.all_cons,List.all_nil,Bool.and_true,depD,Bool.true_and]
 unfold depR at hb hh
 rw [hb,hh]
 rfl
theorem e20 {a f s a' f' s':Ovi.Rows} {c m1 m2 m3:Int} (h1:zO (zaP mt) a 1=some (a',m1)) (h2:zO zad f m1=some (f',m2)) (h3:zO zad s m2=some (s',m3)) (hb:m3≤4611686018427387904):C (k+1) 20 [.var 0 0,.d (.bool true),.d (.int .i64 1),.d (.int .i64 ((112:Nat):Int)),.d (.list 3 a),.d (.int .i64 ((114:Nat):Int)),.d (.list 2 f),.d (.int .i64 c),.d (.int .i64 ((83:Nat):Int)),.d (.list 2 s)]=some [(false,[.row 112 3 a']),(false,[.row 114 2 f']),(false,[.row 83 2 s']),(false,[.d (.int .i64 m3)])]:=by
 rw [zfc (p:=za9 true (mkAg (zbO mt))) rfl]
 have hi:zaO mt [.list 3 a,.list 2 f] 1=some ([.list 3 a',.list 2 f'],m2):=by
  simp only [zaO,h1,Option.bind_some,h2,Option.map_some]
 have hs:zbO mt [.list 3 a,.list 2 f,.int .i64 c,.list 2 s] 1=some ([.list 3 a',.list 2 f',.int .i64 c,.list 2 s'],m3):=by
  simp only [zbO,hi,Option.bind_some,h3,Option.map_some]
  rfl
 have hp:za2 [.d (.int .i64 ((112:Nat):Int)),.d (.list 3 a),.d (.int .i64 ((114:Nat):Int)),.d (.list 2 f),.d (.int .i64 c),.d (.int .i64 ((83:Nat):Int)),.d (.list 2 s)]=some [.row 112 3 a,.row 114 2 f,.any (.int .i64 c),.row 83 2 s]:=rfl
 have hm:mkAg (zbO mt) [.row 112 3 a,.row 114 2 f,.any (.int .i64 c),.row 83 2 s] 1=some ([.row 112 3 a',.row 114 2 f',.any (.int .i64 c),.row 83 2 s'],m3):=by
  simp only [mkAg,List.map_cons,List.map_nil,toD,hs,Option.map_some,ofD]
 simp only [za9]
 rw [show (true==true&&decide ((0:Int)≤1))=true from rfl,cond_true,hp]
 simp only [Option.bind_some,hm,decide_eq_true hb,cond_true]
 rfl
theorem e19 {a a':Ovi.Rows} {m m2:Int} (h1:zO zaT a m=some (a',m2)) (h0:0≤m) (hb:m2≤4611686018427387904):C (k+1) 19 [.var 0 0,.d (.bool false),.d (.int .i64 m),.d (.int .i64 ((3:Nat):Int)),.d (.list 1 a)]=some [(false,[.row 3 1 a']),(false,[.d (.int .i64 m2)])]:=by
 rw [zfc (p:=za9 false (mkLs 1 (zO zaT))) rfl]
 have hp:za2 [.d (.int .i64 ((3:Nat):Int)),.d (.list 1 a)]=some [.row 3 1 a]:=rfl
 have hm:mkLs 1 (zO zaT) [.row 3 1 a] m=some ([.row 3 1 a'],m2):=by
  simp only [mkLs,show Nat.beq 1 1=true from rfl,cond_true,h1,Option.map_some]
 simp only [za9]
 rw [show (false==false&&decide ((0:Int)≤m))=true by rw [decide_eq_true h0];rfl,cond_true,hp]
 simp only [Option.bind_some,hm,decide_eq_true hb,cond_true]
 rfl
theorem c21 {a b s a' b' s':Ovi.Rows} {c m m1 m2 m':Int} (h1:zO (zaP mt) a m=some (a',m1)) (h2:zO zad b m1=some (b',m2)) (h3:zO zad s m2=some (s',m')) (h0:0≤m) (hb:m'≤4611686018427387904) (hl:a'.length≤1048576) (hl2:b'.length≤1048576) (hl3:s'.length≤1048576) (hin:∀ r∈b,∀ z l,r=[.int .i64 z,.list 1 l]→l.length≤1048576) (hin3:∀ r∈s,∀ z l,r=[.int .i64 z,.list 1 l]→l.length≤1048576) (hk:2000000≤k):C (k+4) 21 [.agg [.d (.list 3 a'),.d (.list 2 b'),.d (.int .i64 c),.d (.list 2 s')],.d (.int .i64 m)]=some [(false,[.d (.int .i64 m')])]:=by
 have u1:=(zU zaZ h1).1
 have u2:=(zU zW h2).1
 have u3:=(zU zW h3).1
 rw [F21.run,c53 h1 h2 h0 (by omega) hl hl2 hin hk]
 simp only [zl,zx,zd]
 rw [ite'_f (zaC (by omega)),c54 (k:=k+1) h3 (by omega) hb hl3 hin3 (by omega)]
 simp only [zl,zx,zd]
 rw [ite'_f (zaC (by omega))]
end Go.Proofs.YtiacahdabflcdaaGreat.Q
namespace Go.Proofs.YtiacahdabflcdaaGreat.Q
open Go Ovi
variable {k:Nat}
def val (b:List Int) (t:Int):Int:=if t ≥ 0 then b.getD t.toNat 0 else neg t
def insG (b:List Int):List Int→Option (List Int)
 | []=>some []
 | t::ts=>if okV (val b t) then (insG b ts).map (val b t::·) else none
def okO (r:Int) (acc:List Int):Option (List Int)→Option Res
 | some vs=>okI r (acc++vs)
 | none=>some [(true,[.d (.int .i64 0),.nil]),(false,[.d (.bool false)])]
theorem zeR {r:Int} {acc:List Int} {v:Int} {b ts:List Int} {t:Int} (h:okV (val b t)=true) (hv:v=val b t):okO r (acc++[v]) (insG b ts)=okO r acc (insG b (t::ts)):=by
 subst hv
 rw [insG,if_pos h]
 cases insG b ts with
 | none=>rfl
 | some vs=>simp [okO]
theorem zj4 {r:Int} {acc:List Int} {b ts:List Int} {t:Int} (h:okV (val b t)=false):okO r acc (insG b (t::ts))=some [(true,[.d (.int .i64 0),.nil]),(false,[.d (.bool false)])]:=by
 rw [insG,if_neg (by rw [h];decide)]
 rfl
theorem l91g (ts b:List Int) (r:Int) (hT:okT ts) (hz:ts.length≤1048576) (hb:b.length=5):∀ (m i n:Nat) (acc:List Int),i+m=ts.length→m < n→acc.length≤i→F91.L3 (k+2) (C (k+2)) n (I1 b) (I1 ts) (ts.length:Int) (i:Int) 0 [] r (I1 acc)=okO r acc (insG b (ts.drop i)):=by
 have hmax:(1048576:Nat)≤maxLen:=by decide
 intro m
 induction m with
 | zero =>
  intro i n acc hm hn ha
  obtain ⟨n,rfl⟩:∃ j,n=j+1:=⟨n - 1,by omega⟩
  obtain rfl:i=ts.length:=by omega
  rw [F91.L3.succ,ite'_f (lt_f (by omega)),List.drop_length,insG,okO,List.append_nil]
  rfl
 | succ m ih =>
  intro i n acc hm hn ha
  obtain ⟨n,rfl⟩:∃ j,n=j+1:=⟨n - 1,by omega⟩
  have hi:i < ts.length:=by omega
  have hg:=List.getElem?_eq_getElem hi
  have ht:=hT _ (List.getElem_mem hi)
  have hnx:=fun v=>ih (i+1) n (acc++[v]) (by omega) (by omega) (by rw [List.length_append,List.length_singleton];omega)
  rw [F91.L3.succ,ite'_t (lt_t hi),zn,ite'_t (zo hi),I1_c hg,zd,List.drop_eq_getElem_cons hi,zE hi (m:=ts.length) (by omega)]
  by_cases h0:ts[i] ≥ 0
  ·obtain ⟨q,hq⟩:∃ q:Nat,ts[i]=(q:Int):=⟨ts[i].toNat,by omega⟩
   have hq5:q < b.length:=by omega
   have hbq:b[q]? = some (b.getD q 0):=by rw [List.getD_eq_getElem?_getD,List.getElem?_eq_getElem hq5];rfl
   have hvl:val b ts[i]=b.getD q 0:=by unfold val;rw [if_pos h0,hq,Int.toNat_natCast]
   rw [ite'_t (by simpa using h0),hq,zn,ite'_f (decide_eq_false (by omega)),ite'_t (zo hq5),I1_c hbq,zd,c131 (k:=k) _,bB,← hvl,← hq]
   cases hok:okV (val b ts[i]) with
   | false=>rw [zj4 hok];rfl
   | true =>
    rw [ite'_nt,zn,ite'_t (zY (by simp only [List.length_cons,List.length_nil];omega)),zcd,hnx,zeR hok rfl]
  ·have hvl:val b ts[i]=neg ts[i]:=by unfold val;rw [if_neg h0]
   rw [ite'_f (by simpa using h0),zm6 ht,c131 (k:=k),bB,zhP ht,ite'_nt,zn,ite'_t (zY (by simp only [List.length_cons,List.length_nil];omega)),zcd,hnx,zeR (by rw [hvl];exact zhP ht) hvl.symm]
theorem c91g (x:Atom) (b:List Int) (hT:okT x.2) (hz:x.2.length≤1048576) (hb:b.length=5) (hk:2000000≤k):C (k+3) 91 [.agg [.d (.int .i64 x.1),.d (.list 1 (I1 x.2))],.d (.list 1 (I1 b))]=okO x.1 [] (insG b x.2):=by
 rw [F91.run,zn]
 exact l91g x.2 b x.1 hT hz hb x.2.length 0 (k+2) [] (by omega) (by omega) (Nat.le_refl _)
theorem zpK (ts b:List Int) (r:Int) (hT:okT ts) (hz:ts.length≤1048576) (hb:b.length=5) (hI:∀ v∈b,inI v):∀ (m i n:Nat) (acc:List Int),i+m=ts.length→m < n→acc.length≤i→F124.L3 (k+3) (C (k+3)) n (I1 b) (i:Int) r (I1 ts) 0 [] r (I1 acc)=okO r acc (insG b (ts.drop i)):=by
 have hmax:(1048576:Nat)≤maxLen:=by decide
 intro m
 induction m with
 | zero =>
  intro i n acc hm hn ha
  obtain ⟨n,rfl⟩:∃ j,n=j+1:=⟨n - 1,by omega⟩
  obtain rfl:i=ts.length:=by omega
  rw [F124.L3.succ,zn,ite'_f (lt_f (by omega)),List.drop_length,insG,okO,List.append_nil]
  rfl
 | succ m ih =>
  intro i n acc hm hn ha
  obtain ⟨n,rfl⟩:∃ j,n=j+1:=⟨n - 1,by omega⟩
  have hi:i < ts.length:=by omega
  have hg:=List.getElem?_eq_getElem hi
  have ht:=hT _ (List.getElem_mem hi)
  have hnx:=fun v=>ih (i+1) n (acc++[v]) (by omega) (by omega) (by rw [List.length_append,List.length_singleton];omega)
  rw [F124.L3.succ,zn,ite'_t (lt_t hi),ite'_t (zo hi),I1_c hg,zd,ite'_t (zo hi),zd,List.drop_eq_getElem_cons hi,zE hi (m:=ts.length) (by omega)]
  by_cases h0:ts[i] ≥ 0
  ·obtain ⟨q,hq⟩:∃ q:Nat,ts[i]=(q:Int):=⟨ts[i].toNat,by omega⟩
   have hq5:q < b.length:=by omega
   have hbq:b[q]? = some (b.getD q 0):=by rw [List.getD_eq_getElem?_getD,List.getElem?_eq_getElem hq5];rfl
   have hvl:val b ts[i]=b.getD q 0:=by unfold val;rw [if_pos h0,hq,Int.toNat_natCast]
   have hin:inI (b.getD q 0):=hI _ (List.mem_of_getElem? hbq)
   rw [ite'_t (by simpa using h0),ite'_t (zo hi),zd,hq,zn,ite'_f (decide_eq_false (by omega)),ite'_t (zo hi),zd,ite'_t (zo hq5),I1_c hbq,zd,c159 (k:=k) hin,bB,← hvl,← hq]
   cases hok:okV (val b ts[i]) with
   | false=>rw [zj4 hok];rfl
   | true =>
    rw [ite'_nt,ite'_t (zo hi),zd,ite'_f (decide_eq_false (by omega)),zn,ite'_t (zY (by simp only [List.length_cons,List.length_nil];omega)),zcd,hnx,zeR hok rfl]
  ·have hvl:val b ts[i]=neg ts[i]:=by unfold val;rw [if_neg h0]
   rw [ite'_f (by simpa using h0),zm6 ht,c159 (k:=k) (zoR ht),bB,zhP ht,ite'_nt,ite'_t (zo hi),zd,ite'_t (decide_eq_true (by omega)),ite'_f (decide_eq_false (by unfold neg;omega)),zn,ite'_t (zY (by simp only [List.length_cons,List.length_nil];omega)),zcd,hnx,zeR (by rw [hvl];exact zhP ht) hvl.symm]
theorem zmW (x:Atom) (b:List Int) (hT:okT x.2) (hz:x.2.length≤1048576) (hb:b.length=5) (hI:∀ v∈b,inI v) (hk:2000000≤k):C (k+4) 124 [.agg [.d (.int .i64 x.1),.d (.list 1 (I1 x.2))],.d (.list 1 (I1 b))]=okO x.1 [] (insG b x.2):=by
 rw [F124.run]
 exact zpK x.2 b x.1 hT hz hb hI x.2.length 0 (k+3) [] (by omega) (by omega) (Nat.le_refl _)
theorem zjV {b:List Int}:∀ {ts vs:List Int},insG b ts=some vs→vs.length=ts.length
 | [],vs,h=>by cases h;rfl
 | t::ts,vs,h=>by
  rw [insG] at h
  by_cases hok:okV (val b t)=true
  ·rw [if_pos hok] at h
   obtain ⟨ws,hw,rfl⟩:=Option.map_eq_some_iff.1 h
   rw [List.length_cons,List.length_cons,zjV hw]
  ·rw [if_neg hok] at h;cases h
theorem c186 (xs:List Atom) (f:Atom) (hx:∀ x∈xs,x.2.length≤1048576) (hl:xs.length≤1048576) (hk:2000000≤k):C (k+12) 186 [.d (.list 2 (A1 xs)),.agg [.d (.int .i64 f.1),.d (.list 1 (I1 f.2))]]=bo (decide (f∈xs)):=by
 have hmax:(1048576:Nat)≤maxLen:=by decide
 have e164:C (k+11) 213 [.d (.list 2 (A1 xs)),.d (.fn 214 [[.int .i64 f.1,.list 1 (I1 f.2)]])]=bo (xs.any fun x=>decide (x=f)):=by
  rw [F213.run,F241.run,zq]
  have:=zas (xs:=xs) (L:=fun n i=>F241.L2 (k+9) (C (k+9)) n (A1 xs) 214 [[.int .i64 f.1,.list 1 (I1 f.2)]] (xs.length:Int) i) (stop:=fun _ x=>decide (x=f)) (hit:=fun i=>some [(false,[.d (.int .i64 (i:Int))])]) (fin:=some [(false,[.d (.int .i64 (-1))])])
   (fun n i x hxi=>by
    have hi:=(List.getElem?_eq_some_iff.1 hxi).1
    have hxl:=hx x (List.mem_of_getElem? hxi)
    have e165:C (k+9) 214 [.agg [.d (.int .i64 x.1),.d (.list 1 (I1 x.2))],.cap [.int .i64 f.1,.list 1 (I1 f.2)] 0]=bo (decide (x=f)):=by
     rw [F214.run,F152.run,c77 (k:=k+2) x f (by omega) (by omega),iB']
     have:(cmpF x f==0)=decide (x=f):=by
      rw [Bool.eq_iff_iff,beq_iff_eq,decide_eq_true_eq]
      exact ziz x f
     rw [this];rfl
    rw [F241.L2.succ,zq,ite'_t (lt_t hi),ite'_t (zo hi),zaU hxi,zd,zaV hxi,zh,zE hi (m:=xs.length) (by omega)]
    simp only [List.map_cons,List.map_nil,List.append_eq,List.nil_append] at e165 ⊢
    rw [e165,bB];rfl)
   (fun n=>by rw [F241.L2.succ,ite'_f (lt_f (by omega))]) (k+9) (by omega)
  rcases this with ⟨i,x,hxi,hst,e⟩ | ⟨hst,e⟩
  ·rw [show F241.L2 (k+9) (C (k+9)) (k+9) (A1 xs) 214 [[.int .i64 f.1,.list 1 (I1 f.2)]] (xs.length:Int) 0=_ from e]
   simp only [zl,zx,zd]
   exact zaB (by rw [List.any_eq_true.2 ⟨x,List.mem_of_getElem? hxi,hst⟩];simp)
  ·rw [show F241.L2 (k+9) (C (k+9)) (k+9) (A1 xs) 214 [[.int .i64 f.1,.list 1 (I1 f.2)]] (xs.length:Int) 0=_ from e]
   simp only [zl,zx,zd]
   refine zaB ?_
   rw [List.any_eq_false.2 (fun x hxm=>?_)]
   ·rfl
   ·obtain ⟨i,hi⟩:=List.mem_iff_getElem?.1 hxm
    simpa using hst i x hi
 rw [F186.run,e164,bB]
 refine zaB ?_
 rw [Bool.eq_iff_iff]
 simp
end Go.Proofs.YtiacahdabflcdaaGreat.Q
namespace Go.Proofs.YtiacahdabflcdaaGreat.Q
open Go Ovi
variable {k:Nat}
def ia (a:Ovi.Rows) (fs:List Atom):AV:=.agg [.d (.list 3 a),.d (.list 2 (A1 fs))]
def Inst (a:Ovi.Rows) (fs:List Atom) (ib:Bool):Prop:=∀ k,2000000≤k→C (k+8) 40 [ia a fs]=bo ib∧C (k+8) 58 [ia a fs]=bo ib
def DepY (a:Ovi.Rows) (d:Dep):Prop:=DepOk a d.body d.head d.egd d.l d.r∧∀ k,2000000≤k→C (k+12) 81 [.d (.list 3 a),da d]=bo true∧C (k+12) 108 [.d (.list 3 a),da d]=bo true
def za7 (fs:List Atom) (b:List Int) (x:Atom):Bool:=match insG b x.2 with
 | none=>true
 | some vs=>!decide ((x.1,vs)∈fs)
theorem zdC {fs:List Atom} {b:List Int} {x:Atom} (h:insG b x.2=none):za7 fs b x=true:=by unfold za7;rw [h]
theorem zfG {fs:List Atom} {b:List Int} {x:Atom} {vs:List Int} (h:insG b x.2=some vs):za7 fs b x=!decide ((x.1,vs)∈fs):=by unfold za7;rw [h]
noncomputable def zbP (body:List Atom) (i:Nat) (v:Int):Bool:=(decide (v=10))==@decide (z8 body (i:Int)) (Classical.propDecidable _)
theorem trig {a:Ovi.Rows} {fs:List Atom} {ib:Bool} {d:Dep} (hi:Inst a fs ib) (hd:DepY a d) (hz:Dsz d) (b:List Int) (hI:∀ v∈b,inI v) (hb:b.length≤1048576) (hf:∀ x∈fs,x.2.length≤1048576) (hfl:fs.length≤1048576) :
  ∃ tb,(tb=true→ib=true∧b.length=5∧(∀ i v,b[i]? = some v→zbP d.body i v=false)∧∀ x∈d.body,za7 fs b x=false) ∧
   ∀ k,2000000≤k→C (k+16) 143 [ia a fs,da d,.d (.list 1 (I1 b))]=bo tb∧C (k+16) 168 [ia a fs,da d,.d (.list 1 (I1 b))]=bo tb:=by
 have hmax:(1048576:Nat)≤maxLen:=by decide
 obtain ⟨hD,hdk⟩:=hd
 have hbody:=hD.bv
 unfold Inst ia at *
 unfold da at *
 cases ib with
 | false =>
  refine ⟨false,fun h=>(by cases h),fun k hk=>?_⟩
  have h:=hi (k+7) (by omega)
  rw [F143.run,F168.run,h.1,h.2,bB,bB,ite'_nf,ite'_nf]
  exact ⟨rfl,rfl⟩
 | true =>
  by_cases h5:b.length=5
  ·have e4:∀ k,2000000≤k→F143.L11 (k+15) (C (k+15)) (k+15) (I1 b) (A1 d.body) (d.body.length:Int) 0 a (A1 fs)=cond (d.body.any (za7 fs b)) (bo false) (bo true):=fun k hk =>
    zbE (xs:=d.body) (L:=fun n i=>F143.L11 (k+15) (C (k+15)) n (I1 b) (A1 d.body) (d.body.length:Int) i a (A1 fs)) (stop:=za7 fs b) (hit:=bo false) (fin:=bo true)
     (fun n i x hx=>by
      have hi:=(List.getElem?_eq_some_iff.1 hx).1
      have hm:=List.mem_of_getElem? hx
      have hl:=zah hm
      have hz1:=hz.1
      rw [F143.L11.succ,ite'_t (lt_t hi),zq,ite'_t (zo hi),zaU hx,zd,zaV hx,zh,c91g (k:=k+12) x b (hbody x hm).2.2 (by omega) h5 (by omega),zE hi (m:=d.body.length) (by omega)]
      cases hins:insG b x.2 with
      | none=>rw [zdC hins];rfl
      | some vs =>
       rw [zfG hins,okO,List.nil_append,zm8,ite'_nt,c186 (k:=k+3) fs (x.1,vs) hf hfl (by omega),bB]
       cases decide ((x.1,vs)∈fs)<;>rfl)
     (fun n=>by rw [F143.L11.succ,ite'_f (lt_f (by omega))];rfl) (k+15) (by have:=hD.b2;omega)
   have e10:∀ k,2000000≤k→F168.L10 (k+15) (C (k+15)) (k+15) (I1 b) 0 a (A1 fs) (A1 d.body) (A1 d.head) d.egd d.l d.r=cond (d.body.any (za7 fs b)) (bo false) (bo true):=fun k hk =>
    zbE (xs:=d.body) (L:=fun n i=>F168.L10 (k+15) (C (k+15)) n (I1 b) i a (A1 fs) (A1 d.body) (A1 d.head) d.egd d.l d.r) (stop:=za7 fs b) (hit:=bo false) (fin:=bo true)
     (fun n i x hx=>by
      have hi:=(List.getElem?_eq_some_iff.1 hx).1
      have hm:=List.mem_of_getElem? hx
      have hl:=zah hm
      have hz1:=hz.1
      rw [F168.L10.succ,zq,ite'_t (lt_t hi),ite'_t (zo hi),zaU hx,zd,zaV hx,zh,zmW (k:=k+11) x b (hbody x hm).2.2 (by omega) h5 hI (by omega),zE hi (m:=d.body.length) (by omega)]
      cases hins:insG b x.2 with
      | none=>rw [zdC hins];rfl
      | some vs =>
       rw [zfG hins]
       obtain ⟨n1,g1,g2⟩:=c173 (k:=k+11) (a:=a) fs (x.1,vs) hf hfl (by omega)
       rw [okO,List.nil_append,zm8,ite'_nt,g1,iB']
       by_cases hmem:(x.1,vs)∈fs
       ·have:=g2.2 hmem
        rw [ite'_f (decide_eq_false (by omega)),decide_eq_true hmem];rfl
       ·have:¬ n1 ≥ 0:=fun h=>hmem (g2.1 h)
        rw [ite'_t (decide_eq_true (by omega)),decide_eq_false hmem];rfl)
     (fun n=>by rw [F168.L10.succ,zq,ite'_f (lt_f (by omega))];rfl) (k+15) (by have:=hD.b2;omega)
   have key:∃ st:Bool,(st=false→∀ i v,b[i]? = some v→zbP d.body i v=false)∧∀ k,2000000≤k→∀ v1 v2,(∀ z,z∈v1↔z8 d.body z)→(∀ z,z∈v2↔z8 d.body z)→v1.length≤1048576→v2.length≤1048576 →
     F143.L5 (k+15) (C (k+15)) (k+15) (I1 b) (I1 b) (b.length:Int) 0 a (A1 fs) (A1 d.body) (A1 d.head) d.egd d.l d.r (I1 v1)=cond st (bo false) (cond (d.body.any (za7 fs b)) (bo false) (bo true)) ∧
     F168.L5 (k+15) (C (k+15)) (k+15) (I1 b) (I1 v2) 0 a (A1 fs) (A1 d.body) (A1 d.head) d.egd d.l d.r=cond st (bo false) (cond (d.body.any (za7 fs b)) (bo false) (bo true)):=by
    have s1:∀ k,2000000≤k→∀ v1,(∀ z,z∈v1↔z8 d.body z)→v1.length≤1048576→∀ (n i:Nat) v,b[i]? = some v→F143.L5 (k+15) (C (k+15)) (n+1) (I1 b) (I1 b) (b.length:Int) (i:Int) a (A1 fs) (A1 d.body) (A1 d.head) d.egd d.l d.r (I1 v1)=cond (zbP d.body i v) (bo false) (F143.L5 (k+15) (C (k+15)) n (I1 b) (I1 b) (b.length:Int) ((i+1:Nat):Int) a (A1 fs) (A1 d.body) (A1 d.head) d.egd d.l d.r (I1 v1)):=by
     intro k hk v1 w1 w2 n i v hv
     have hi:=(List.getElem?_eq_some_iff.1 hv).1
     rw [F143.L5.succ,ite'_t (lt_t hi),zn,ite'_t (zo hi),I1_c hv,zd,c138 (k:=k+13) v1 (i:Int) (by omega) (by omega),bB,zdJ w1,zE hi (m:=b.length) (by omega)]
     have e:(!((v != (10:Int))==vB d.body (i:Int)))=zbP d.body i v:=by
      unfold zbP vB
      have h10:(v != (10:Int))=!decide (v=10):=rfl
      rw [h10]
      cases decide (v=10)<;>cases @decide (z8 d.body (i:Int)) (Classical.propDecidable _)<;>rfl
     rw [e];rfl
    have s2:∀ k,2000000≤k→∀ v1,(∀ z,z∈v1↔z8 d.body z)→v1.length≤1048576→∀ (n i:Nat) v,b[i]? = some v→F168.L5 (k+15) (C (k+15)) (n+1) (I1 b) (I1 v1) (i:Int) a (A1 fs) (A1 d.body) (A1 d.head) d.egd d.l d.r=cond (zbP d.body i v) (bo false) (F168.L5 (k+15) (C (k+15)) n (I1 b) (I1 v1) ((i+1:Nat):Int) a (A1 fs) (A1 d.body) (A1 d.head) d.egd d.l d.r):=by
     intro k hk v1 w1 w2 n i v hv
     have hi:=(List.getElem?_eq_some_iff.1 hv).1
     rw [F168.L5.succ,zn,ite'_t (lt_t hi),c156 (k:=k+14) v1 (i:Int) (by omega) (by omega),bB,zdJ w1,ite'_t (zo hi),I1_c hv,zd,F205.run,zE hi (m:=b.length) (by omega)]
     simp only [zl,zx,zd]
     have e:(vB d.body (i:Int)==(v==(10:Int)))=zbP d.body i v:=by
      unfold zbP vB
      have:(v==(10:Int))=decide (v=10):=rfl
      rw [this]
      cases decide (v=10)<;>cases @decide (z8 d.body (i:Int)) (Classical.propDecidable _)<;>rfl
     rw [e];rfl
    by_cases hall:∀ (i:Nat) v,b[i]? = some v→zbP d.body i v=false
    ·refine ⟨false,fun _=>hall,fun k hk v1 v2 w1 w2 u1 u2=>⟨?_,?_⟩⟩
     ·rcases zas (L:=fun n i=>F143.L5 (k+15) (C (k+15)) n (I1 b) (I1 b) (b.length:Int) i a (A1 fs) (A1 d.body) (A1 d.head) d.egd d.l d.r (I1 v1)) (stop:=zbP d.body) (hit:=fun _=>bo false) (s1 k hk v1 w1 u1) (fun n=>by rw [F143.L5.succ,ite'_f (lt_f (by omega)),zq,e4 k hk]) (k+15) (by omega) with ⟨i,x,hx,hst,_⟩ | ⟨_,h⟩
      ·rw [hall i x hx] at hst;cases hst
      ·exact h
     ·rcases zas (L:=fun n i=>F168.L5 (k+15) (C (k+15)) n (I1 b) (I1 v2) i a (A1 fs) (A1 d.body) (A1 d.head) d.egd d.l d.r) (stop:=zbP d.body) (hit:=fun _=>bo false) (s2 k hk v2 w2 u2) (fun n=>by rw [F168.L5.succ,zn,ite'_f (lt_f (by omega)),e10 k hk]) (k+15) (by omega) with ⟨i,x,hx,hst,_⟩ | ⟨_,h⟩
      ·rw [hall i x hx] at hst;cases hst
      ·exact h
    ·refine ⟨true,fun h=>(by cases h),fun k hk v1 v2 w1 w2 u1 u2=>⟨?_,?_⟩⟩
     ·rcases zas (L:=fun n i=>F143.L5 (k+15) (C (k+15)) n (I1 b) (I1 b) (b.length:Int) i a (A1 fs) (A1 d.body) (A1 d.head) d.egd d.l d.r (I1 v1)) (stop:=zbP d.body) (hit:=fun _=>bo false) (s1 k hk v1 w1 u1) (fun n=>by rw [F143.L5.succ,ite'_f (lt_f (by omega)),zq,e4 k hk]) (k+15) (by omega) with ⟨i,x,hx,hst,h⟩ | ⟨h,_⟩
      ·exact h
      ·exact absurd h hall
     ·rcases zas (L:=fun n i=>F168.L5 (k+15) (C (k+15)) n (I1 b) (I1 v2) i a (A1 fs) (A1 d.body) (A1 d.head) d.egd d.l d.r) (stop:=zbP d.body) (hit:=fun _=>bo false) (s2 k hk v2 w2 u2) (fun n=>by rw [F168.L5.succ,zn,ite'_f (lt_f (by omega)),e10 k hk]) (k+15) (by omega) with ⟨i,x,hx,hst,h⟩ | ⟨h,_⟩
      ·exact h
      ·exact absurd h hall
   obtain ⟨st,hst,hkey⟩:=key
   refine ⟨cond st false (!(d.body.any (za7 fs b))),fun h=>?_,fun k hk=>?_⟩
   ·cases st with
    | true=>cases h
    | false =>
     simp only [cond_false,Bool.not_eq_true'] at h
     rw [List.any_eq_false] at h
     exact ⟨rfl,h5,hst rfl,fun x hx=>by simpa using h x hx⟩
   ·obtain ⟨v1,w1,w2,w3⟩:=c137 (k:=k+14) d.body (by have:=hz.1;omega) hz.1
    obtain ⟨v2,u1,u2,u3⟩:=c154 (k:=k+13) d.body (by have:=hz.1;omega) hz.1
    have hz1:=hz.1
    obtain ⟨g1,g2⟩:=hkey k hk v1 v2 w2 u2 (by omega) (by omega)
    have h:=hi (k+7) (by omega)
    have h':=hdk (k+3) (by omega)
    rw [F143.run,F168.run,h.1,h.2,bB,bB,ite'_nt,ite'_nt,h'.1,h'.2,bB,bB,ite'_nt,ite'_nt,zn,ite'_f (by simp [h5]),ite'_f (by simp [h5]),w1,u1]
    simp only [zl,zy,zcu,zh]
    rw [g1,g2]
    cases st<;>cases d.body.any (za7 fs b)<;>exact ⟨rfl,rfl⟩
  ·refine ⟨false,fun h=>(by cases h),fun k hk=>?_⟩
   have h:=hi (k+7) (by omega)
   have h':=hdk (k+3) (by omega)
   rw [F143.run,F168.run,h.1,h.2,bB,bB,ite'_nt,ite'_nt,h'.1,h'.2,bB,bB,ite'_nt,ite'_nt,zn,ite'_t (by simp;omega),ite'_t (by simp;omega)]
   exact ⟨rfl,rfl⟩
end Go.Proofs.YtiacahdabflcdaaGreat.Q
namespace Go.Proofs.YtiacahdabflcdaaGreat.Q
open Go Ovi
variable {k:Nat}
structure InstY (a:Ovi.Rows) (fs:List Atom) (ib:Bool):Prop where
 hal:a.length≤1048576
 ok:Inst a fs ib
 f30:ib=true→fs.length≤30∧∀ x∈fs,(0≤x.1∧x.1 < (a.length:Int))∧(x.2.length:Int)=ar a x.1
 fx:∀ x∈fs,x.2.length≤1048576
 fl:fs.length≤1048576
theorem InstY.qok {a:Ovi.Rows} {fs xs:List Atom} {ib:Bool} (h:InstY a fs ib) (hs:zD xs+xs.length≤1048576) (h1:1≤xs.length) (h3:xs.length≤3) (hv:zdK a xs (fun _=>true)) (hx:∀ x∈xs,(0≤x.1∧x.1 < (a.length:Int))∧(x.2.length:Int)=ar a x.1∧okT x.2):Qok a fs xs (fun _=>true) ib where
 ha:=h.hal
 hs:=hs
 hv:=hv
 h1:=h1
 h3:=h3
 all:=fun _ _=>rfl
 inst:=h.ok
 mok:=fun hb=>by
  obtain ⟨g1,g2⟩:=h.f30 hb
  refine ⟨g1,h3,fun x hxm=>⟨(hx x hxm).2.2,by have:=zah hxm;omega⟩,fun x hxm f hf hxf=>?_⟩
  have p1:=(hx x hxm).2.1
  have p2:=(g2 f hf).2
  rw [← hxf] at p2
  omega
theorem zn2 {a:Ovi.Rows} {fs xs:List Atom} (hq:Qok a fs xs (fun _=>true) true) (b:List Int) (hb:b.length=5):∃ e,∀ k,2000000≤k→C (k+18) 144 [ia a fs,.d (.list 2 (A1 xs)),.d (.list 1 (I1 b))]=bo e∧C (k+18) 169 [ia a fs,.d (.list 2 (A1 xs)),.d (.list 1 (I1 b))]=bo e:=by
 refine ⟨decide ((mats fs xs b).length > 0),fun k hk=>?_⟩
 have h3:=hq.h3
 have hm:=hq.mok rfl
 have e94:C (k+17) 87 [.d (.list 1 (I1 b))]=some [(false,[.row 3 1 (I1 b)])]:=by
  have:C (k+17) 87 [.d (.list 1 (I1 b))]=zbn 3 [.d (.list 1 (I1 b))]:=by kernel_rfl
  rw [this]
  simp only [zbn,zbz]
  rw [show Nat.ble b.length 1099511627776=true from Nat.ble_eq_true_of_le (by omega)]
  rfl
 have e155:C (k+17) 183 [.d (.list 2 (A1 fs)),.d (.list 2 (A1 xs)),.d (.list 1 (I1 b))]=some [(false,[.frow 27 1 1 (LL (mats fs xs b))])]:=by
  have:=c183 (fs:=fs) (k:=k+14 - xs.length) (by omega) xs hm b hb hq.h1
  rw [show k+14 - xs.length+xs.length+3=k+17 by omega] at this
  exact this
 have e112:C (k+17) 203 [.agg [.d (.list 3 a),.d (.list 2 (A1 fs))],.d (.list 2 (A1 xs)),.d (.int .i64 0),.d (.list 1 (I1 b))]=some [(false,[.row 27 1 (LL (mats fs xs b))])]:=by
  have:=c203 (a:=a) hm (k:=k+14 - xs.length) (by omega) xs.length 0 (by omega) b hb
  rw [show k+14 - xs.length+xs.length+3=k+17 by omega] at this
  exact this
 have e154:=c182 (k:=k+2) hq (by omega)
 have e111:=c202 (k:=k+1) hq (by omega)
 have hlen:decide ((((mats fs xs b).length:Nat):Int) > 0)=decide ((mats fs xs b).length > 0):=by
  rw [Bool.eq_iff_iff];simp only [decide_eq_true_eq];omega
 unfold ia
 constructor
 ·rw [F144.run,e154,bB,ite'_t rfl,zn,ite'_t (by simp [hb]),e94]
  simp only [zl,zy,zh]
  rw [e155]
  simp only [zl,zJ,zh]
  rw [zQ,hlen];rfl
 ·rw [F169.run,e111,bB,ite'_t rfl,zn,ite'_t (by simp [hb]),e112]
  simp only [zl,zy,zh]
  rw [zQ,hlen];rfl
theorem actv {a:Ovi.Rows} {fs:List Atom} {ib:Bool} {d:Dep} (hi:InstY a fs ib) (hd:DepY a d) (hz:Dsz d) (b:List Int) (hI:∀ v∈b,inI v) (hb:b.length≤1048576) :
  ∃ vb,(vb=true→ib=true∧b.length=5∧(∀ i v,b[i]? = some v→zbP d.body i v=false)∧(∀ x∈d.body,za7 fs b x=false)∧(d.egd=true→b.getD d.l.toNat 0≠b.getD d.r.toNat 0)) ∧
   ∀ k,2000000≤k→C (k+20) 85 [ia a fs,da d,.d (.list 1 (I1 b))]=bo vb∧C (k+20) 118 [ia a fs,da d,.d (.list 1 (I1 b))]=bo vb:=by
 obtain ⟨tb,htb,ht⟩:=trig hi.ok hd hz b hI hb hi.fx hi.fl
 have hD:=hd.1
 cases tb with
 | false =>
  refine ⟨false,fun h=>(by cases h),fun k hk=>?_⟩
  have h:=ht (k+3) (by omega)
  unfold ia da at *
  rw [F85.run,F118.run,h.1,h.2,bB,bB,ite'_nf,ite'_nf]
  exact ⟨rfl,rfl⟩
 | true =>
  obtain ⟨g1,g2,g3,g4⟩:=htb rfl
  subst g1
  cases he:d.egd with
  | true =>
   obtain ⟨_,hl,hr⟩:=hD.e he
   obtain ⟨l0,l4⟩:=zik hD.bv hl
   obtain ⟨r0,r4⟩:=zik hD.bv hr
   obtain ⟨p,hp⟩:∃ p:Nat,d.l=(p:Int):=⟨d.l.toNat,by omega⟩
   obtain ⟨q,hq⟩:∃ q:Nat,d.r=(q:Int):=⟨d.r.toNat,by omega⟩
   have hp5:p < b.length:=by omega
   have hq5:q < b.length:=by omega
   have hbp:b[p]? = some (b.getD p 0):=by rw [List.getD_eq_getElem?_getD,List.getElem?_eq_getElem hp5];rfl
   have hbq:b[q]? = some (b.getD q 0):=by rw [List.getD_eq_getElem?_getD,List.getElem?_eq_getElem hq5];rfl
   refine ⟨b.getD p 0 != b.getD q 0,fun h=>⟨rfl,g2,g3,g4,fun _=>?_⟩,fun k hk=>?_⟩
   ·rw [hp,hq,Int.toNat_natCast,Int.toNat_natCast]
    simpa using h
   ·have h:=ht (k+3) (by omega)
    unfold ia da at *
    rw [he,hp,hq] at h ⊢
    rw [F85.run,F118.run,h.1,h.2,bB,bB,ite'_nt,ite'_nt,ite'_t rfl,ite'_t rfl,zn,ite'_t (zo hp5),I1_c hbp,zd,ite'_t (zo hq5),I1_c hbq,zd]
    exact ⟨rfl,rfl⟩
  | false =>
   obtain ⟨q1,q2⟩:=hD.tV he
   obtain ⟨q3,q4⟩:=hD.t he
   have hq:=hi.qok hz.2 q1 (by omega) q2 q4
   obtain ⟨e,hee⟩:=zn2 hq b g2
   refine ⟨!e,fun h=>⟨rfl,g2,g3,g4,fun h=>by cases h⟩,fun k hk=>?_⟩
   have h:=ht (k+3) (by omega)
   have h':=hee (k+1) (by omega)
   unfold ia da at *
   rw [he] at h ⊢
   rw [F85.run,F118.run,h.1,h.2,bB,bB,ite'_nt,ite'_nt,ite'_f rfl,ite'_f rfl,h'.1,h'.2,bB]
   exact ⟨rfl,rfl⟩
end Go.Proofs.YtiacahdabflcdaaGreat.Q
namespace Go.Proofs.YtiacahdabflcdaaGreat.Q
open Go Ovi
variable {k:Nat}
theorem c172 (a:Ovi.Rows) (xs:List Atom) (hI:∀ x∈xs,∀ z∈x.2,inI z) (hk:2000000≤k) (hs:zD xs+xs.length≤1048576):C (k+4) 172 [.agg [.d (.list 3 a),.d (.list 2 (A1 xs))]]=some [(false,[.d (.list 1 (I1 (zal (vals xs))))])]:=by
 have hmax:(1048576:Nat)≤maxLen:=by decide
 rw [F172.run]
 have inner:∀ (ls:List Int) (i:Nat),ls.length≤1048576→i < xs.length→∀ (m j n k3:Nat) (acc:List Int),j+m=ls.length→m < n→SS acc→acc.length+m≤1048576 → 
   ∃ acc',F172.L7 (k+3) (C (k+3)) k3 n (I1 acc) (i:Int) (I1 ls) (j:Int) a (A1 xs)=F172.L3 (k+3) (C (k+3)) k3 (I1 acc') ((i+1:Nat):Int) a (A1 xs)∧SS acc'∧acc'.length≤acc.length+m∧∀ z,z∈acc'↔z∈acc∨z∈ls.drop j:=by
  intro ls i hls hi m
  induction m with
  | zero =>
   intro j n k3 acc hm hn hS hl
   obtain ⟨n,rfl⟩:∃ j,n=j+1:=⟨n - 1,by omega⟩
   refine ⟨acc,?_,hS,by omega,fun z=>by rw [List.drop_eq_nil_of_le (by omega)];simp⟩
   rw [F172.L7.succ,zn,ite'_f (lt_f (by omega)),zE hi (m:=xs.length) (by omega)]
  | succ m ih =>
   intro j n k3 acc hm hn hS hl
   obtain ⟨n,rfl⟩:∃ j,n=j+1:=⟨n - 1,by omega⟩
   have hj:j < ls.length:=by omega
   have hz:=List.getElem?_eq_getElem hj
   obtain ⟨r',ws,e1,e2,e3,e4,e5⟩:=zk3 (k:=k+2) acc ls[j] hS (by omega) (by omega)
   rw [F172.L7.succ,zn,ite'_t (lt_t hj),ite'_t (zo hj)]
   simp only [Int.toNat_natCast,zF (I1_get' hz),List.getElem?_cons_zero,Option.bind_some,zz,zd]
   rw [e1]
   simp only [zl]
   rw [e2,zh,zE hj (m:=ls.length) (by omega)]
   obtain ⟨acc',g1,g2,g3,g4⟩:=ih (j+1) n k3 ws (by omega) (by omega) e5 (by omega)
   refine ⟨acc',g1,g2,by omega,fun z=>?_⟩
   rw [g4 z,e3 z,List.drop_eq_getElem_cons hj,List.mem_cons,or_assoc]
 have outer:∀ (m i n:Nat) (acc:List Int),i+m=xs.length→m < n→SS acc→acc.length≤zD (xs.take i)→(∀ z,z∈acc↔z∈zal (vals (xs.take i))) →
   F172.L3 (k+3) (C (k+3)) n (I1 acc) (i:Int) a (A1 xs)=some [(false,[.d (.list 1 (I1 (zal (vals xs))))])]:=by
  intro m
  induction m with
  | zero =>
   intro i n acc hm hn hS ha hmem
   obtain ⟨n,rfl⟩:∃ j,n=j+1:=⟨n - 1,by omega⟩
   obtain rfl:i=xs.length:=by omega
   rw [List.take_length] at hmem
   rw [F172.L3.succ,zq,ite'_f (lt_f (by omega)),zh1 hS (zj3 _) hmem]
  | succ m ih =>
   intro i n acc hm hn hS ha hmem
   obtain ⟨n,rfl⟩:∃ j,n=j+1:=⟨n - 1,by omega⟩
   have hi:i < xs.length:=by omega
   have hx:=List.getElem?_eq_getElem hi
   have hxm:=List.mem_of_getElem? hx
   have hta:=zbu hx
   have htl:=zbv xs (i+1)
   have hnl:=ziQ (xs[i]).2
   rw [F172.L3.succ,zq,ite'_t (lt_t hi),ite'_t (zo hi)]
   simp only [Int.toNat_natCast,zF (zaG hx),zab (zaG hx),List.getElem?_cons_zero,List.getElem?_cons_succ,Option.bind_some,zz,zN,zd,zh]
   rw [c106 (k:=k) (xs[i]).1 (xs[i]).2 (hI _ hxm) (by omega) (by omega)]
   simp only [zl,zcu,zh]
   obtain ⟨acc',g1,g2,g3,g4⟩:=inner (zal (xs[i]).2) i (by omega) hi (zal (xs[i]).2).length 0 (k+3) n acc (by omega) (by omega) hS (by omega)
   rw [show ((0:Nat):Int)=0 from rfl] at g1
   rw [g1]
   refine ih (i+1) n acc' (by omega) (by omega) g2 (by omega) (fun z=>?_)
   rw [g4 z,List.drop_zero,hmem z,zcj,zcj,zcj,List.take_succ_eq_append_getElem hi]
   unfold vals
   rw [List.flatMap_append]
   simp only [List.mem_append,List.flatMap_cons,List.flatMap_nil,List.append_nil]
   constructor
   ·rintro (⟨v,h1,h2⟩ | ⟨v,h1,h2⟩)
    ·exact ⟨v,.inl h1,h2⟩
    ·exact ⟨v,.inr h1,h2⟩
   ·rintro ⟨v,h1 | h1,h2⟩
    ·exact .inl ⟨v,h1,h2⟩
    ·exact .inr ⟨v,h1,h2⟩
 exact outer xs.length 0 (k+3) [] (by omega) (by omega) (by simp [SS]) (by simp) (fun z=>by simp [zcj,vals])
end Go.Proofs.YtiacahdabflcdaaGreat.Q
namespace Go.Proofs.YtiacahdabflcdaaGreat.Q
open Go Ovi
variable {k:Nat}
theorem znS (a b:List Int):I1 a++I1 b=I1 (a++b):=by simp [I1]
theorem c148 (a:Ovi.Rows) (xs:List Atom) (hI:∀ x∈xs,∀ z∈x.2,inI z) (hk:2000000≤k) (hs:zD xs+xs.length≤1048576):C (k+5) 148 [.agg [.d (.list 3 a),.d (.list 2 (A1 xs))]]=some [(false,[.row 3 1 (I1 (zal (vals xs)))])]:=by
 have hmax:(1048576:Nat)≤maxLen:=by decide
 have hvl:=zhg xs
 rw [F148.run,zq]
 have main:∀ (m i n:Nat),i+m=xs.length→m < n→F148.L3 (k+4) (C (k+4)) n (A1 xs) (xs.length:Int) (i:Int) (I1 (vals (xs.take i)))=some [(false,[.row 3 1 (I1 (zal (vals xs)))])]:=by
  intro m
  induction m with
  | zero =>
   intro i n hm hn
   obtain ⟨n,rfl⟩:∃ j,n=j+1:=⟨n - 1,by omega⟩
   obtain rfl:i=xs.length:=by omega
   rw [F148.L3.succ,ite'_f (lt_f (by omega)),List.take_length,c134 (k:=k+1) (vals xs) (zo0 hI) (by omega) (by omega)]
   rfl
  | succ m ih =>
   intro i n hm hn
   obtain ⟨n,rfl⟩:∃ j,n=j+1:=⟨n - 1,by omega⟩
   have hi:i < xs.length:=by omega
   have hg:=List.getElem?_eq_getElem hi
   have:=ih (i+1) n (by omega) (by omega)
   have hv:vals (xs.take (i+1))=vals (xs.take i)++(xs[i]).2:=by
    unfold vals
    rw [List.take_succ_eq_append_getElem hi,List.flatMap_append,List.flatMap_cons,List.flatMap_nil,List.append_nil]
   rw [hv] at this
   have h1:=zhg (xs.take i)
   have h2:=zbu hg
   have h3:=zbv xs (i+1)
   rw [F148.L3.succ,ite'_t (lt_t hi),zq,ite'_t (zo hi),zaU hg,zd,zaV hg,zh,zn,zn,ite'_t (zY (by omega)),zE hi (m:=xs.length) (by omega),znS]
   exact this
 exact main xs.length 0 (k+4) (by omega) (by omega)
def nx (fs:List Atom):Int:=if zal (vals fs)=[] then 0 else (zal (vals fs)).getD ((zal (vals fs)).length - 1) 0+1
theorem zmG {zs:List Int} {n:Int} (h:n∈zal zs):0≤n∧n≤39:=by
 obtain ⟨v,_,hv,rfl⟩:=(zcj _ _).1 h
 have:=zgb hv
 omega
theorem zm7 (fs:List Atom):0≤nx fs∧nx fs≤40:=by
 unfold nx
 by_cases h:zal (vals fs)=[]
 ·rw [if_pos h];omega
 ·rw [if_neg h]
  have hl:0 < (zal (vals fs)).length:=List.length_pos_iff.2 h
  have hm:(zal (vals fs)).getD ((zal (vals fs)).length - 1) 0∈zal (vals fs):=by
   rw [List.getD_eq_getElem?_getD,List.getElem?_eq_getElem (by omega)]
   exact List.getElem_mem _
  have:=zmG hm
  omega
theorem zj2 (a:Ovi.Rows) (xs:List Atom) (hI:∀ x∈xs,∀ z∈x.2,inI z) (hk:2000000≤k) (hs:zD xs+xs.length≤1048576):C (k+6) 88 [ia a xs]=io (nx xs)∧C (k+6) 122 [ia a xs]=io (nx xs):=by
 have hl:=ziQ (vals xs)
 have hvl:=zhg xs
 have h1:=c148 a xs hI hk hs
 have h2:=c172 (k:=k+1) a xs hI (by omega) hs
 have h40:=zm7 xs
 have key:∀ L:List Int,L=zal (vals xs)→ite' (((I1 L).length:Int)==0) (io 0) (ite' (inR (IntKind.i64.wrap (((I1 L).length:Int) - 1)) (I1 L).length) (zg (zm .i64 (I1 L) (IntKind.i64.wrap (((I1 L).length:Int) - 1)).toNat 0) fun n6=>io (IntKind.i64.wrap (n6+1))) none)=io (nx xs):=by
  intro L hL
  rw [zn]
  unfold nx at h40 ⊢
  rw [← hL] at h40 ⊢
  by_cases h:L=[]
  ·rw [if_pos h,ite'_t (by simp [h])]
  ·have hp:0 < L.length:=List.length_pos_iff.2 h
   rw [← hL] at hl
   have hw:IntKind.i64.wrap ((L.length:Int) - 1)=((L.length - 1:Nat):Int):=by rw [zac (by omega) (by omega)];omega
   have hg:L[L.length - 1]? = some (L.getD (L.length - 1) 0):=by rw [List.getD_eq_getElem?_getD,List.getElem?_eq_getElem (show L.length - 1 < L.length by omega)];rfl
   rw [if_neg h] at h40 ⊢
   rw [ite'_f (by simp [h]),hw,ite'_t (zo (show L.length - 1 < L.length by omega)),I1_c hg,zd,zac (by omega) (by omega)]
 unfold ia
 constructor
 ·rw [F88.run,h1]
  simp only [zl,zy,zh]
  exact key _ rfl
 ·rw [F122.run,h2]
  simp only [zl,zcu,zh]
  exact key _ rfl
end Go.Proofs.YtiacahdabflcdaaGreat.Q
namespace Go.Proofs.YtiacahdabflcdaaGreat.Q
open Go Ovi
variable {k:Nat}
theorem zmY (xs:List Atom) (hk:zD xs+xs.length < k) (hs:zD xs+xs.length≤1048576):∃ vs,C (k+1) 137 [.d (.list 2 (A1 xs))]=some [(false,[.row 3 1 (I1 vs)])]∧(∀ z,z∈vs↔z8 xs z)∧vs.length≤zD xs∧SS vs:=by
 rw [F137.run,zq]
 have hmax:(1048576:Nat)≤maxLen:=by decide
 have inner:∀ (i:Nat) (x:Atom),xs[i]? = some x→∀ (m j n k3:Nat) (acc:List Int),j+m=x.2.length→m < n→acc.length≤zD (xs.take i)+j→(∀ z,z∈acc↔z8 (xs.take i) z∨(0≤z∧z∈x.2.take j)) →
   ∃ acc',F137.L6 k (C k) k3 n (A1 xs) (xs.length:Int) (i:Int) (I1 x.2) (x.2.length:Int) (j:Int) (I1 acc)=F137.L3 k (C k) k3 (A1 xs) (xs.length:Int) ((i+1:Nat):Int) (I1 acc')∧acc'.length≤zD (xs.take (i+1))∧∀ z,z∈acc'↔z8 (xs.take (i+1)) z:=by
  intro i x hx m
  have hi:=(List.getElem?_eq_some_iff.1 hx).1
  have hta:=zbu hx
  have htl:=zbv xs (i+1)
  induction m with
  | zero =>
   intro j n k3 acc hm hn ha hmem
   obtain ⟨n,rfl⟩:∃ j,n=j+1:=⟨n - 1,by omega⟩
   obtain rfl:j=x.2.length:=by omega
   refine ⟨acc,?_,by omega,fun z=>?_⟩
   ·rw [F137.L6.succ,ite'_f (lt_f (by omega)),zE hi (m:=xs.length) (by omega)]
   ·rw [hmem z,zc7 hx,List.take_length]
  | succ m ih =>
   intro j n k3 acc hm hn ha hmem
   obtain ⟨n,rfl⟩:∃ j,n=j+1:=⟨n - 1,by omega⟩
   have hj:j < x.2.length:=by omega
   have hz:=List.getElem?_eq_getElem hj
   rw [F137.L6.succ,ite'_t (lt_t hj),zn,ite'_t (zo hj)]
   simp only [Int.toNat_natCast,zF (I1_get' hz),List.getElem?_cons_zero,Option.bind_some,zz,zd]
   rw [zE hj (m:=x.2.length) (by omega)]
   have htk:∀ z,z∈x.2.take (j+1)↔z∈x.2.take j∨z=x.2[j]:=by
    intro z
    rw [List.take_succ_eq_append_getElem hj]
    simp only [List.mem_append,List.mem_singleton]
   by_cases h0:0≤x.2[j]
   ·rw [ite'_t (by simpa using h0),ite'_t (zY (by simp [zn];omega))]
    have e:I1 acc++[[.int .i64 x.2[j]]]=I1 (acc++[x.2[j]]):=by simp [I1]
    rw [e]
    refine ih (j+1) n k3 _ (by omega) (by omega) (by simp;omega) (fun z=>?_)
    rw [List.mem_append,List.mem_singleton,hmem z,htk z]
    constructor
    ·rintro ((h | h) | h)
     ·exact .inl h
     ·exact .inr ⟨h.1,.inl h.2⟩
     ·exact .inr ⟨h▸h0,.inr h⟩
    ·rintro (h | ⟨h1,h | h⟩)
     ·exact .inl (.inl h)
     ·exact .inl (.inr ⟨h1,h⟩)
     ·exact .inr h
   ·rw [ite'_f (by simpa using h0)]
    refine ih (j+1) n k3 _ (by omega) (by omega) (by omega) (fun z=>?_)
    rw [hmem z,htk z]
    constructor
    ·rintro (h | h)
     ·exact .inl h
     ·exact .inr ⟨h.1,.inl h.2⟩
    ·rintro (h | ⟨h1,h | h⟩)
     ·exact .inl h
     ·exact .inr ⟨h1,h⟩
     ·exact absurd (h▸h1) h0
 have outer:∀ (m i n:Nat) (acc:List Int),i+m=xs.length→m < n→acc.length≤zD (xs.take i)→(∀ z,z∈acc↔z8 (xs.take i) z) →
   ∃ vs,F137.L3 k (C k) n (A1 xs) (xs.length:Int) (i:Int) (I1 acc)=some [(false,[.row 3 1 (I1 vs)])]∧(∀ z,z∈vs↔z8 xs z)∧vs.length≤zD xs∧SS vs:=by
  intro m
  induction m with
  | zero =>
   intro i n acc hm hn ha hmem
   obtain ⟨n,rfl⟩:∃ j,n=j+1:=⟨n - 1,by omega⟩
   obtain rfl:i=xs.length:=by omega
   rw [List.take_length] at ha hmem
   obtain ⟨k,rfl⟩:∃ j,k=j+1:=⟨k - 1,by omega⟩
   have e1:C (k+1) 176 [.var 0 0,.d (.int .i64 3),.d (.list 1 (I1 acc))]=some [(false,[.row 3 1 (I1 (zL acc))])]:=by
    show zcx _=_
    unfold zcx zbJ
    simp only [zbz]
    rw [show Nat.ble acc.length 1099511627776=true from Nat.ble_eq_true_of_le (by omega)]
    rfl
   have hsl:(zL acc).length=acc.length:=by simp [zL]
   have e2:C (k+1) 177 [.var 0 0,.d (.int .i64 3),.d (.list 1 (I1 (zL acc)))]=some [(false,[.row 3 1 (I1 (Lib.compact (zL acc)))]),(true,[])]:=by
    show zbf _=_
    unfold zbf zbJ
    simp only [zbz]
    rw [show Nat.ble (zL acc).length 1099511627776=true from Nat.ble_eq_true_of_le (by omega)]
    rfl
   refine ⟨Lib.compact (zL acc),?_,fun z=>?_,?_,ze3 _⟩
   ·rw [F137.L3.succ,ite'_f (lt_f (by omega)),e1]
    simp only [zl,zy,zh]
    rw [e2]
    rfl
   ·rw [zcI,zcp,hmem z]
   ·have:=zcG (zL acc)
    omega
  | succ m ih =>
   intro i n acc hm hn ha hmem
   obtain ⟨n,rfl⟩:∃ j,n=j+1:=⟨n - 1,by omega⟩
   have hi:i < xs.length:=by omega
   have hx:=List.getElem?_eq_getElem hi
   rw [F137.L3.succ,zq,ite'_t (lt_t hi),ite'_t (zo hi)]
   simp only [Int.toNat_natCast,zF (zaG hx),zab (zaG hx),List.getElem?_cons_zero,List.getElem?_cons_succ,Option.bind_some,zz,zN,zd,zh]
   have hta:=zbu hx
   have htl:=zbv xs (i+1)
   rw [zn]
   obtain ⟨acc',e,h1,h2⟩:=inner i _ hx (xs[i]).2.length 0 k n acc (by omega) (by omega) (by omega) (fun z=>by simp [hmem z])
   rw [show ((0:Nat):Int)=0 from rfl] at e
   rw [e]
   exact ih (i+1) n acc' (by omega) (by omega) h1 h2
 have:=outer xs.length 0 k [] (by omega) (by omega) (by simp) (fun z=>by simp [z8])
 exact this
theorem zph (xs:List Atom) (hk:zD xs+xs.length < k) (hs:zD xs+xs.length≤1048576):∃ vs,C (k+2) 154 [.d (.list 2 (A1 xs))]=some [(false,[.d (.list 1 (I1 vs))])]∧(∀ z,z∈vs↔z8 xs z)∧vs.length≤zD xs∧SS vs:=by
 rw [F154.run]
 have hmax:(1048576:Nat)≤maxLen:=by decide
 have inner:∀ (i:Nat) (x:Atom),xs[i]? = some x→∀ (m j n k3:Nat) (acc:List Int),j+m=x.2.length→m < n→acc.length≤zD (xs.take i)+j→(∀ z,z∈acc↔z8 (xs.take i) z∨(0≤z∧z∈x.2.take j))→SS acc →
   ∃ acc',F154.L6 (k+1) (C (k+1)) k3 n (A1 xs) (I1 acc) (i:Int) (j:Int)=F154.L3 (k+1) (C (k+1)) k3 (A1 xs) (I1 acc') ((i+1:Nat):Int)∧acc'.length≤zD (xs.take (i+1))∧(∀ z,z∈acc'↔z8 (xs.take (i+1)) z)∧SS acc':=by
  intro i x hx m
  have hi:=(List.getElem?_eq_some_iff.1 hx).1
  have hta:=zbu hx
  have htl:=zbv xs (i+1)
  have hcell:zw 1 (A1 xs) ((i:Int)).toNat 1=some (I1 x.2):=by rw [Int.toNat_natCast,zab (zaG hx)];rfl
  have hin:inR (i:Int) (A1 xs).length=true:=by rw [zq];exact zo hi
  induction m with
  | zero =>
   intro j n k3 acc hm hn ha hmem hSS
   obtain ⟨n,rfl⟩:∃ j,n=j+1:=⟨n - 1,by omega⟩
   obtain rfl:j=x.2.length:=by omega
   refine ⟨acc,?_,by omega,fun z=>?_,hSS⟩
   ·rw [F154.L6.succ,ite'_t hin,hcell,zh,zn,ite'_f (lt_f (by omega)),zE hi (m:=xs.length) (by omega)]
   ·rw [hmem z,zc7 hx,List.take_length]
  | succ m ih =>
   intro j n k3 acc hm hn ha hmem hSS
   obtain ⟨n,rfl⟩:∃ j,n=j+1:=⟨n - 1,by omega⟩
   have hj:j < x.2.length:=by omega
   have hz:=List.getElem?_eq_getElem hj
   have hcz:zm .i64 (I1 x.2) ((j:Int)).toNat 0=some x.2[j]:=by rw [Int.toNat_natCast,zF (I1_get' hz)];rfl
   have hinj:inR (j:Int) (I1 x.2).length=true:=by rw [zn];exact zo hj
   rw [F154.L6.succ,ite'_t hin,hcell,zh,ite'_t (b:=decide ((j:Int) < ((I1 x.2).length:Int))) (by rw [zn];exact lt_t hj),ite'_t hin]
   simp only [zh]
   rw [ite'_t hinj,hcz]
   simp only [zd]
   rw [zE hj (m:=x.2.length) (by omega)]
   have htk:∀ z,z∈x.2.take (j+1)↔z∈x.2.take j∨z=x.2[j]:=by
    intro z
    rw [List.take_succ_eq_append_getElem hj]
    simp only [List.mem_append,List.mem_singleton]
   by_cases h0:0≤x.2[j]
   ·obtain ⟨r,ws,e1,e2,e3,e4,e5⟩:=zk3 (k:=k) acc x.2[j] hSS (by omega) (by omega)
    rw [ite'_t (by simpa using h0),ite'_t hin,ite'_t hinj,e1]
    simp only [zl]
    rw [e2,zh]
    refine ih (j+1) n k3 _ (by omega) (by omega) (by omega) (fun z=>?_) e5
    rw [e3 z,hmem z,htk z]
    constructor
    ·rintro ((h | h) | h)
     ·exact .inl h
     ·exact .inr ⟨h.1,.inl h.2⟩
     ·exact .inr ⟨h▸h0,.inr h⟩
    ·rintro (h | ⟨h1,h | h⟩)
     ·exact .inl (.inl h)
     ·exact .inl (.inr ⟨h1,h⟩)
     ·exact .inr h
   ·rw [ite'_f (by simpa using h0)]
    refine ih (j+1) n k3 _ (by omega) (by omega) (by omega) (fun z=>?_) hSS
    rw [hmem z,htk z]
    constructor
    ·rintro (h | h)
     ·exact .inl h
     ·exact .inr ⟨h.1,.inl h.2⟩
    ·rintro (h | ⟨h1,h | h⟩)
     ·exact .inl h
     ·exact .inr ⟨h1,h⟩
     ·exact absurd (h▸h1) h0
 have outer:∀ (m i n:Nat) (acc:List Int),i+m=xs.length→m < n→acc.length≤zD (xs.take i)→(∀ z,z∈acc↔z8 (xs.take i) z)→SS acc →
   ∃ vs,F154.L3 (k+1) (C (k+1)) n (A1 xs) (I1 acc) (i:Int)=some [(false,[.d (.list 1 (I1 vs))])]∧(∀ z,z∈vs↔z8 xs z)∧vs.length≤zD xs∧SS vs:=by
  intro m
  induction m with
  | zero =>
   intro i n acc hm hn ha hmem hSS
   obtain ⟨n,rfl⟩:∃ j,n=j+1:=⟨n - 1,by omega⟩
   obtain rfl:i=xs.length:=by omega
   rw [List.take_length] at ha hmem
   exact ⟨acc,by rw [F154.L3.succ,zq,ite'_f (lt_f (by omega))],hmem,ha,hSS⟩
  | succ m ih =>
   intro i n acc hm hn ha hmem hSS
   obtain ⟨n,rfl⟩:∃ j,n=j+1:=⟨n - 1,by omega⟩
   have hi:i < xs.length:=by omega
   have hx:=List.getElem?_eq_getElem hi
   have hta:=zbu hx
   have htl:=zbv xs (i+1)
   rw [F154.L3.succ,zq,ite'_t (lt_t hi)]
   obtain ⟨acc',e,h1,h2,h3⟩:=inner i _ hx (xs[i]).2.length 0 (k+1) n acc (by omega) (by omega) (by omega) (fun z=>by simp [hmem z]) hSS
   rw [show ((0:Nat):Int)=0 from rfl] at e
   rw [e]
   exact ih (i+1) n acc' (by omega) (by omega) h1 h2 h3
 have:=outer xs.length 0 (k+1) [] (by omega) (by omega) (by simp) (fun z=>by simp [z8]) (by simp [SS])
 exact this
theorem znZ (d:Dep) (hz:Dsz d):∃ ev:List Int,(∀ z,z∈ev↔z8 d.head z∧¬ z8 d.body z)∧ev.length≤zD d.head∧∀ k,3000000≤k→C (k+3) 89 [da d]=some [(false,[.row 3 1 (I1 ev)])]∧C (k+3) 121 [da d]=some [(false,[.row 3 1 (I1 ev)])]:=by
 have hmax:(1048576:Nat)≤maxLen:=by decide
 obtain ⟨hz1,hz2⟩:=hz
 obtain ⟨vh,_,h2,h3,h4⟩:=zmY (k:=3000000) d.head (by omega) hz2
 have hb:∀ z,decide (z∈vh)=vB d.head z:=zdJ h2
 refine ⟨vh.filter fun z=>!vB d.body z,fun z=>?_,?_,fun k hk=>?_⟩
 ·rw [List.mem_filter,h2]
  unfold vB
  simp
 ·have:=List.length_filter_le (fun z=>!vB d.body z) vh
  omega
 ·obtain ⟨v1,a1,a2,a3⟩:=c137 (k:=k) d.body (by omega) hz1
  obtain ⟨v2,b1,b2,b3,b4⟩:=zmY (k:=k) d.head (by omega) hz2
  obtain ⟨u1,d1,d2,d3⟩:=c154 (k:=k) d.body (by omega) hz1
  obtain ⟨u2,e1,e2,e3,e4⟩:=zph (k:=k) d.head (by omega) hz2
  obtain rfl:v2=vh:=zh1 b4 h4 fun z=>by rw [b2,h2]
  obtain rfl:u2=v2:=zh1 e4 b4 fun z=>by rw [e2,b2]
  have L138:∀ (m i n:Nat),i+m=u2.length→m < n→F149.L3 (k+1) (C (k+1)) n false (u2.length:Int) (i:Int) (I1 v1) (I1 ((u2.take i).filter fun z=>!vB d.body z)) (I1 u2)=some [(false,[.row 3 1 (I1 (u2.filter fun z=>!vB d.body z))])]:=by
   intro m
   induction m with
   | zero =>
    intro i n hm hn
    obtain ⟨n,rfl⟩:∃ j,n=j+1:=⟨n - 1,by omega⟩
    obtain rfl:i=u2.length:=by omega
    rw [F149.L3.succ,ite'_f (lt_f (by omega)),List.take_length]
   | succ m ih =>
    intro i n hm hn
    obtain ⟨n,rfl⟩:∃ j,n=j+1:=⟨n - 1,by omega⟩
    have hi:i < u2.length:=by omega
    have hg:=List.getElem?_eq_getElem hi
    have hft:=List.length_filter_le (fun z=>!vB d.body z) (u2.take i)
    rw [List.length_take] at hft
    have:=ih (i+1) n (by omega) (by omega)
    rw [List.take_succ_eq_append_getElem hi,List.filter_append] at this
    obtain ⟨j,rfl⟩:∃ j,k=j+1:=⟨k - 1,by omega⟩
    rw [F149.L3.succ,ite'_t (lt_t hi),zn,ite'_t (zo hi),I1_c hg,zd,c138 (k:=j) v1 u2[i] (by omega) (by omega),bB,zdJ a2,zE hi (m:=u2.length) (by omega)]
    cases hv:vB d.body u2[i] with
    | true =>
     rw [show (true==false)=false from rfl,ite'_f rfl]
     simpa [hv] using this
    | false =>
     rw [show (false==false)=true from rfl,ite'_t rfl,zn,ite'_t (zY (by simp only [List.length_cons,List.length_nil];omega)),zcd]
     simpa [hv] using this
  have L74:∀ (m i n:Nat),i+m=u2.length→m < n→F121.L5 (k+2) (C (k+2)) n (I1 u1) (I1 u2) (i:Int) (I1 ((u2.take i).filter fun z=>!vB d.body z))=some [(false,[.row 3 1 (I1 (u2.filter fun z=>!vB d.body z))])]:=by
   intro m
   induction m with
   | zero =>
    intro i n hm hn
    obtain ⟨n,rfl⟩:∃ j,n=j+1:=⟨n - 1,by omega⟩
    obtain rfl:i=u2.length:=by omega
    rw [F121.L5.succ,zn,ite'_f (lt_f (by omega)),List.take_length]
   | succ m ih =>
    intro i n hm hn
    obtain ⟨n,rfl⟩:∃ j,n=j+1:=⟨n - 1,by omega⟩
    have hi:i < u2.length:=by omega
    have hg:=List.getElem?_eq_getElem hi
    have hft:=List.length_filter_le (fun z=>!vB d.body z) (u2.take i)
    rw [List.length_take] at hft
    have:=ih (i+1) n (by omega) (by omega)
    rw [List.take_succ_eq_append_getElem hi,List.filter_append] at this
    rw [F121.L5.succ,zn,ite'_t (lt_t hi),ite'_t (zo hi),I1_c hg,zd,c156 (k:=k+1) u1 u2[i] (by omega) (by omega),bB,zdJ d2,zE hi (m:=u2.length) (by omega)]
    cases hv:vB d.body u2[i] with
    | true =>
     rw [ite'_nt]
     simpa [hv] using this
    | false =>
     rw [ite'_nf,ite'_t (zo hi),zd,zn,ite'_t (zY (by simp only [List.length_cons,List.length_nil];omega)),zcd]
     simpa [hv] using this
  unfold da
  constructor
  ·rw [F89.run,F149.run,a1,b1]
   simp only [zl,zy,zh]
   rw [zn,show F149.L3 (k+1) (C (k+1)) (k+1) false (u2.length:Int) 0 (I1 v1) [] (I1 u2)=_ from L138 u2.length 0 (k+1) (by omega) (by omega)]
   simp only [zl,zy,zh]
  ·rw [F121.run,d1]
   simp only [zl,zcu,zh]
   rw [e1]
   simp only [zl,zcu,zh]
   exact L74 u2.length 0 (k+2) (by omega) (by omega)
end Go.Proofs.YtiacahdabflcdaaGreat.Q
namespace Go.Proofs.YtiacahdabflcdaaGreat.Q
open Go Ovi
variable {k:Nat}
def s1 (n:Int):Ovi.Rows:=[[.int .i64 n]]
theorem zeW (n:Int):zm .i64 (s1 n) 0 0=some n:=rfl
def zbw (n w:Int):Bool:=decide ((0:Int)≤n∧n≤39)&&okV w
theorem zmZ (n w:Int) (hw:inI w) (hk:100≤k):C (k+5) 170 [.agg [.d (.list 1 (s1 n)),.d (.list 1 (s1 w))]]=bo (zbw n w):=by
 obtain ⟨j,rfl⟩:∃ j,k=j+2:=⟨k - 2,by omega⟩
 have e0:F170.L4 (j+2+4) (C (j+2+4)) (j+2+3+1) 0 (s1 n) (s1 w)=bo (zbw n w):=by
  have h1:F170.L4 (j+2+4) (C (j+2+4)) (j+2+2+1) 1 (s1 n) (s1 w)=bo true:=by rw [F170.L4.succ];rfl
  rw [F170.L4.succ,show decide ((0:Int) < ((s1 n).length:Int))=true from rfl,ite'_t rfl,show inR (0:Int) (s1 n).length=true from rfl,ite'_t rfl,show ((0:Int)).toNat=0 from rfl,zeW,zd,c157,bB]
  unfold zbw
  cases decide ((0:Int)≤n∧n≤39) with
  | false=>rfl
  | true =>
   rw [ite'_nt,show decide ((0:Int) > 0)=false from rfl,ite'_f rfl,show inR (0:Int) (s1 w).length=true from rfl,ite'_t rfl,zeW,zd,c159 (k:=j+2+1) hw,bB]
   cases okV w with
   | false=>rfl
   | true=>rw [ite'_nt];exact h1
 rw [F170.run,show (((s1 n).length:Int) != ((s1 w).length:Int))=false from rfl,ite'_f rfl]
 exact e0
theorem zm0 (n w:Int) (hk:100≤k):C (k+5) 187 [.agg [.d (.list 1 (s1 n)),.d (.list 1 (s1 w))]]=bo (zbw n w):=by
 obtain ⟨j,rfl⟩:∃ j,k=j+2:=⟨k - 2,by omega⟩
 have e0:F187.L4 (j+2+4) (C (j+2+4)) (j+2+3+1) (s1 n) 1 0 (s1 n) (s1 w)=bo (zbw n w):=by
  have h1:F187.L4 (j+2+4) (C (j+2+4)) (j+2+2+1) (s1 n) 1 1 (s1 n) (s1 w)=bo true:=by rw [F187.L4.succ];rfl
  rw [F187.L4.succ,show decide ((0:Int) < 1)=true from rfl,ite'_t rfl,show inR (0:Int) (s1 n).length=true from rfl,ite'_t rfl,show ((0:Int)).toNat=0 from rfl,zeW,zd,c128,bB]
  unfold zbw
  cases decide ((0:Int)≤n∧n≤39) with
  | false=>rfl
  | true =>
   rw [ite'_nt,show decide ((0:Int) > 0)=false from rfl,ite'_f rfl,show inR (0:Int) (s1 w).length=true from rfl,ite'_t rfl,zeW,zd,c131 (k:=j+2+2) w,bB]
   cases okV w with
   | false=>rfl
   | true=>rw [ite'_nt];exact h1
 rw [F187.run,show (((s1 n).length:Int) != ((s1 w).length:Int))=false from rfl,ite'_f rfl]
 exact e0
end Go.Proofs.YtiacahdabflcdaaGreat.Q
namespace Go.Proofs.YtiacahdabflcdaaGreat.Q
open Go Ovi
variable {k:Nat}
def sv (n w v:Int):Int:=if v=neg n then w else v
theorem zpl (n w v:Int) (hn:zbw n w=true) (hw:inI w) (hk:100≤k):C (k+7) 206 [.agg [.d (.list 1 (s1 n)),.d (.list 1 (s1 w))],.d (.int .i64 v)]=io (sv n w v):=by
 have hn1:(0:Int)≤n∧n≤39:=by
  unfold zbw at hn
  rw [Bool.and_eq_true,decide_eq_true_eq] at hn
  exact hn.1
 have hneg:IntKind.i64.wrap (-1 - n)=neg n:=zac (by omega) (by omega)
 have h1:F206.L2 (k+6) (C (k+6)) (k+4+1) v 1 (s1 n) (s1 w)=io v:=by rw [F206.L2.succ];rfl
 have e0:F206.L2 (k+6) (C (k+6)) (k+5+1) v 0 (s1 n) (s1 w)=io (sv n w v):=by
  rw [F206.L2.succ,show decide ((0:Int) < ((s1 n).length:Int))=true from rfl,ite'_t rfl,zmZ (k:=k+1) n w hw (by omega),bB,hn,ite'_t rfl,show inR (0:Int) (s1 n).length=true from rfl,ite'_t rfl,show ((0:Int)).toNat=0 from rfl,zeW,zd,F123.run,hneg]
  simp only [zl,zx,zd]
  unfold sv
  by_cases h:v=neg n
  ·subst h
   rw [if_pos rfl,ite'_t (by simp),show inR (0:Int) (s1 w).length=true from rfl,ite'_t rfl,zeW,zd];rfl
  ·rw [if_neg h,ite'_f (by simpa using fun e=>h e.symm)];exact h1
 rw [F206.run]
 exact e0
theorem zpj (n q:Int) (hk:100≤k):C (k+1) 180 [.d (.list 1 (s1 n)),.d (.int .i64 q)]=io (if q=n then 0 else -1):=by
 obtain ⟨j,rfl⟩:∃ j,k=j+2:=⟨k - 2,by omega⟩
 have h1:F180.L2 (j+2) (C (j+2)) (j+1) (s1 n) q 1 1=io (-1):=by rw [F180.L2.succ];rfl
 have e0:F180.L2 (j+2) (C (j+2)) (j+1+1) (s1 n) q 1 0=io (if q=n then 0 else -1):=by
  rw [F180.L2.succ,show decide ((0:Int) < 1)=true from rfl,ite'_t rfl,show inR (0:Int) (s1 n).length=true from rfl,ite'_t rfl,show ((0:Int)).toNat=0 from rfl,zeW,zd]
  by_cases h:q=n
  ·rw [if_pos h,ite'_t (by simpa using h)];rfl
  ·rw [if_neg h,ite'_f (by simpa using h)];exact h1
 rw [F180.run]
 exact e0
theorem zpm (n w v:Int) (hn:zbw n w=true) (hv:inI v) (hk:100≤k):C (k+7) 215 [.agg [.d (.list 1 (s1 n)),.d (.list 1 (s1 w))],.d (.int .i64 v)]=io (sv n w v):=by
 have hn1:(0:Int)≤n∧n≤39:=by
  unfold zbw at hn
  rw [Bool.and_eq_true,decide_eq_true_eq] at hn
  exact hn.1
 rw [F215.run,c146 (k:=k+4) hv,nnB,zpj (k:=k+5) n _ (by omega),iB',zm0 (k:=k+1) n w (by omega),bB,hn]
 unfold sv
 cases hN:isN v with
 | false =>
  have:=zji hN
  rw [if_neg (show ¬ v=neg n by unfold neg;omega)];rfl
 | true =>
  rw [ite'_nt,if_pos rfl]
  by_cases h:v=neg n
  ·have : -1 - v=n:=by unfold neg at h;omega
   rw [if_pos h,if_pos this];rfl
  ·have:¬ -1 - v=n:=fun e=>h (by unfold neg;omega)
   rw [if_neg h,if_neg this];rfl
end Go.Proofs.YtiacahdabflcdaaGreat.Q
namespace Go.Proofs.YtiacahdabflcdaaGreat.Q
open Go Ovi
variable {k:Nat}
def subF (n w:Int) (x:Atom):Atom:=(x.1,x.2.map (sv n w))
theorem zpi (n w:Int) (hn:zbw n w=true) (hw:inI w) (x:Atom) (hz:x.2.length≤1048576) (hk:2000000≤k):C (k+9) 171 [.agg [.d (.list 1 (s1 n)),.d (.list 1 (s1 w))],.agg [.d (.int .i64 x.1),.d (.list 1 (I1 x.2))]]=some [(true,[.d (.int .i64 x.1),.row 3 1 (I1 (subF n w x).2)])]:=by
 have hmax:(1048576:Nat)≤maxLen:=by decide
 have main:∀ (m i j:Nat),i+m=x.2.length→m < j→F171.L3 (k+8) (C (k+8)) j (i:Int) (s1 n) (s1 w) x.1 (I1 x.2) 0 [] x.1 (I1 ((x.2.take i).map (sv n w)))=some [(true,[.d (.int .i64 x.1),.row 3 1 (I1 (subF n w x).2)])]:=by
  intro m
  induction m with
  | zero =>
   intro i j hm hj
   obtain ⟨j,rfl⟩:∃ q,j=q+1:=⟨j - 1,by omega⟩
   obtain rfl:i=x.2.length:=by omega
   rw [F171.L3.succ,zn,ite'_f (lt_f (by omega)),List.take_length]
   rfl
  | succ m ih =>
   intro i j hm hj
   obtain ⟨j,rfl⟩:∃ q,j=q+1:=⟨j - 1,by omega⟩
   have hi:i < x.2.length:=by omega
   have hg:=List.getElem?_eq_getElem hi
   have:=ih (i+1) j (by omega) (by omega)
   rw [List.take_succ_eq_append_getElem hi,List.map_append,List.map_singleton] at this
   rw [F171.L3.succ,zn,ite'_t (lt_t hi),ite'_t (zo hi),I1_c hg,zd,zpl (k:=k+1) n w x.2[i] hn hw (by omega),iB',ite'_t (zY (by rw [zn,List.length_map,List.length_take];simp only [List.length_cons,List.length_nil];omega)),zE hi (m:=x.2.length) (by omega),zcd]
   exact this
 rw [F171.run]
 exact main x.2.length 0 (k+8) (by omega) (by omega)
theorem zpk (n w:Int) (hn:zbw n w=true) (x:Atom) (hI:∀ v∈x.2,inI v) (hz:x.2.length≤1048576) (hk:2000000≤k):C (k+9) 188 [.agg [.d (.list 1 (s1 n)),.d (.list 1 (s1 w))],.agg [.d (.int .i64 x.1),.d (.list 1 (I1 x.2))]]=some [(true,[.d (.int .i64 x.1),.row 3 1 (I1 (subF n w x).2)])]:=by
 have hmax:(1048576:Nat)≤maxLen:=by decide
 have main:∀ (m i j:Nat) (cur:List Int),i+m=x.2.length→m < j→cur=(x.2.take i).map (sv n w)++x.2.drop i→F188.L3 (k+8) (C (k+8)) j (I1 x.2) (x.2.length:Int) (i:Int) (s1 n) (s1 w) 0 [] x.1 (I1 cur)=some [(true,[.d (.int .i64 x.1),.row 3 1 (I1 (subF n w x).2)])]:=by
  intro m
  induction m with
  | zero =>
   intro i j cur hm hj hc
   obtain ⟨j,rfl⟩:∃ q,j=q+1:=⟨j - 1,by omega⟩
   obtain rfl:i=x.2.length:=by omega
   rw [List.take_length,List.drop_length,List.append_nil] at hc
   subst hc
   rw [F188.L3.succ,ite'_f (lt_f (by omega))]
   rfl
  | succ m ih =>
   intro i j cur hm hj hc
   obtain ⟨j,rfl⟩:∃ q,j=q+1:=⟨j - 1,by omega⟩
   have hi:i < x.2.length:=by omega
   have hg:=List.getElem?_eq_getElem hi
   have hcl:cur.length=x.2.length:=by rw [hc];simp;omega
   rw [F188.L3.succ,ite'_t (lt_t hi),zn,ite'_t (zo hi),I1_c hg,zd,zpm (k:=k+1) n w x.2[i] hn (hI _ (List.getElem_mem hi)) (by omega),iB',zn,ite'_t (zo (show i < cur.length by omega)),zE hi (m:=x.2.length) (by omega),Int.toNat_natCast,zcv _ (show i < cur.length by omega)]
   refine ih (i+1) j _ (by omega) (by omega) ?_
   rw [hc,List.take_succ_eq_append_getElem hi,List.map_append,List.map_singleton,List.drop_eq_getElem_cons hi,List.append_assoc,List.singleton_append]
   have hz0:i - ((x.2.take i).map (sv n w)).length=0:=by rw [List.length_map,List.length_take];omega
   rw [List.set_append_right _ _ (by rw [List.length_map,List.length_take];omega),hz0,List.set_cons_zero]
 rw [F188.run,c141 (k:=k+6) x hz]
 show F188.L3 (k+8) (C (k+8)) (k+8) (I1 x.2) ((I1 x.2).length:Int) 0 (s1 n) (s1 w) 0 [] x.1 (I1 x.2)=_
 rw [zn]
 exact main x.2.length 0 (k+8) x.2 (by omega) (by omega) (by simp)
end Go.Proofs.YtiacahdabflcdaaGreat.Q
namespace Go.Proofs.YtiacahdabflcdaaGreat.Q
open Go Ovi
variable {k:Nat}
theorem zln {M:List Atom} {i:Nat} (z:Atom) (h:i < M.length):zai (A1 M) i 0 [.int .i64 z.1,.list 1 (I1 z.2)]=A1 (M.set i z):=by
 have:(A1 M).getD i []=[.int .i64 (M[i]).1,.list 1 (I1 (M[i]).2)]:=by simp [A1,List.getD,h]
 unfold zai
 rw [this]
 simp [A1,List.map_set]
def subI (n w:Int) (fs:List Atom):List Atom:=can (fs.map (subF n w))
theorem zh4 {n w:Int} {fs:List Atom} (hf:∀ x∈fs,x.2.length≤1048576):∀ z∈fs.map (subF n w),z.2.length≤1048576:=by
 intro z hz
 obtain ⟨x,hx,rfl⟩:=List.mem_map.1 hz
 have:=hf x hx
 simpa [subF] using this
theorem R54 {r:Res} {a b:Ovi.Rows} {f:Ovi.Rows→Ovi.Rows→Option Res} (h1:resL 3 1 true 2 r 0 0=some a) (h2:resL 2 1 true 2 r 0 1=some b):(zb (some r) fun r20=>zc (resL 3 1 true 2 r20 0 0) fun l33=>zc (resL 2 1 true 2 r20 0 1) fun l55=>f l33 l55)=f a b:=by
 rw [zl,h1,zh,h2,zh]
theorem aF {r:Int} {vs:Ovi.Rows} {f:Int→Ovi.Rows→Option Res}:(zb (some [(true,[.d (.int .i64 r),.row 3 1 vs])]) fun r16=>zg (resI .i64 1 true 2 r16 0 0) fun n17=>zc (resO 3 1 1 true 2 r16 0 1) fun l53=>f n17 l53)=f r vs:=rfl
theorem aI {a b:Ovi.Rows} {f:Ovi.Rows→Ovi.Rows→Option Res}:(zb (some [(true,[.row 112 3 a,.frow 114 2 1 b])]) fun r16=>zc (resO 112 3 1 true 2 r16 0 0) fun l35=>zc (resF 114 2 1 1 true 2 r16 0 1) fun l53=>f l35 l53)=f a b:=rfl
theorem zpg {a:Ovi.Rows} {fs:List Atom} (n w:Int) (hn:zbw n w=true) (hi:Inst a fs true) (ha2:a.length≤1048576) (hf:∀ x∈fs,x.2.length≤1048576) (hI:∀ x∈fs,∀ v∈x.2,inI v) (hl:fs.length≤1048576) (hk:2000000≤k) :
  C (k+11) 147 [.agg [.d (.list 1 (s1 n)),.d (.list 1 (s1 w))],ia a fs]=some [(true,[.row 112 3 a,.frow 114 2 1 (A1 (subI n w fs))]),(false,[.d (.bool true)])]:=by
 have hmax:(1048576:Nat)≤maxLen:=by decide
 have main:∀ (m i j:Nat) (cur:List Atom),i+m=fs.length→m < j→cur=(fs.take i).map (subF n w)++fs.drop i→F147.L5 (k+10) (C (k+10)) j (A1 fs) (fs.length:Int) (i:Int) (s1 n) (s1 w) [] [] a (A1 cur)=some [(true,[.row 112 3 a,.frow 114 2 1 (A1 (subI n w fs))]),(false,[.d (.bool true)])]:=by
  intro m
  induction m with
  | zero =>
   intro i j cur hm hj hc
   obtain ⟨j,rfl⟩:∃ q,j=q+1:=⟨j - 1,by omega⟩
   obtain rfl:i=fs.length:=by omega
   rw [List.take_length,List.drop_length,List.append_nil] at hc
   subst hc
   rw [F147.L5.succ,ite'_f (lt_f (by omega)),c92 (k:=k+6) (fs.map (subF n w)) (zh4 hf) (by rw [List.length_map];omega) (by omega)]
   rfl
  | succ m ih =>
   intro i j cur hm hj hc
   obtain ⟨j,rfl⟩:∃ q,j=q+1:=⟨j - 1,by omega⟩
   have hi:i < fs.length:=by omega
   have hg:=List.getElem?_eq_getElem hi
   have hgm:=List.getElem_mem hi
   have hcl:cur.length=fs.length:=by rw [hc];simp;omega
   rw [F147.L5.succ,ite'_t (lt_t hi),zq,ite'_t (zo hi),zaU hg,zd,zaV hg,zh,zpk (k:=k+1) n w hn fs[i] (hI _ hgm) (hf _ hgm) (by omega),aF,zq,ite'_t (zo (show i < cur.length by omega)),zE hi (m:=fs.length) (by omega),Int.toNat_natCast]
   have e:=zln (M:=cur) (i:=i) (subF n w fs[i]) (by omega)
   rw [show (fs[i]).1=(subF n w fs[i]).1 from rfl,e]
   refine ih (i+1) j _ (by omega) (by omega) ?_
   have hz0:i - ((fs.take i).map (subF n w)).length=0:=by rw [List.length_map,List.length_take];omega
   rw [hc,List.take_succ_eq_append_getElem hi,List.map_append,List.map_singleton,List.drop_eq_getElem_cons hi,List.append_assoc,List.singleton_append]
   rw [List.set_append_right _ _ (by rw [List.length_map,List.length_take];omega),hz0,List.set_cons_zero]
 have h50:=(hi (k+2) (by omega)).1
 unfold ia at *
 rw [F147.run,zm0 (k:=k+5) n w (by omega),bB,hn,ite'_nt,h50,bB,ite'_nt,c42 (k:=k+6) ha2 fs hf hl (by omega),aI,zq]
 exact main fs.length 0 (k+10) fs (by omega) (by omega) (by simp)
end Go.Proofs.YtiacahdabflcdaaGreat.Q
namespace Go.Proofs.YtiacahdabflcdaaGreat.Q
open Go Ovi
variable {k:Nat}
theorem zpf {a:Ovi.Rows} {fs:List Atom} (n w:Int) (hn:zbw n w=true) (hw:inI w) (hi:Inst a fs true) (ha2:a.length≤1048576) (hf:∀ x∈fs,x.2.length≤1048576) (hl:fs.length≤1000000) (hk:2000000≤k) :
  C (k+11) 120 [.agg [.d (.list 1 (s1 n)),.d (.list 1 (s1 w))],ia a fs]=some [(true,[.row 112 3 a,.frow 114 2 1 (A1 (subI n w fs))]),(false,[.d (.bool true)])]:=by
 have hmax:(1048576:Nat)≤maxLen:=by decide
 have hcl:(subI n w fs).length≤fs.length:=by
  have:=zkB (fs.map (subF n w))
  rw [List.length_map] at this
  exact this
 have main:∀ (m i j:Nat) (gs:List Atom),i+m=fs.length→m < j→SSA gs→(∀ z,z∈gs↔z∈(fs.take i).map (subF n w))→gs.length≤i→F120.L5 (k+10) (C (k+10)) j (i:Int) (s1 n) (s1 w) a (A1 fs) [] [] a (A1 gs)=some [(true,[.row 112 3 a,.frow 114 2 1 (A1 (subI n w fs))]),(false,[.d (.bool true)])]:=by
  intro m
  induction m with
  | zero =>
   intro i j gs hm hj hS hmem hgl
   obtain ⟨j,rfl⟩:∃ q,j=q+1:=⟨j - 1,by omega⟩
   obtain rfl:i=fs.length:=by omega
   have e:gs=subI n w fs:=by
    refine zkj hS (zd4 _) fun z=>?_
    rw [hmem z,List.take_length]
    exact (zbM _ _).symm
   subst e
   rw [F120.L5.succ,zq,ite'_f (lt_f (by omega)),c68 (k:=k+7) ha2 (subI n w fs) (fun z hz=>zh4 hf z ((zbM _ _).1 hz)) (by omega) (by omega),aI]
  | succ m ih =>
   intro i j gs hm hj hS hmem hgl
   obtain ⟨j,rfl⟩:∃ q,j=q+1:=⟨j - 1,by omega⟩
   have hi:i < fs.length:=by omega
   have hg:=List.getElem?_eq_getElem hi
   have hgm:=List.getElem_mem hi
   have hgx:∀ x∈gs,x.2.length≤1048576:=by
    intro z hz
    obtain ⟨x,hx',rfl⟩:=List.mem_map.1 ((hmem z).1 hz)
    have:=hf x (List.mem_of_mem_take hx')
    simpa [subF] using this
   obtain ⟨r,ws,e1,e2,e3,e4,e5,e6⟩:=c125 (k:=k+5) (a:=a) gs (subF n w fs[i]) hS hgx (by have:=hf _ hgm;simpa [subF] using this) (by omega) (by omega)
   rw [F120.L5.succ,zq,ite'_t (lt_t hi),ite'_t (zo hi),zaU hg,zd,zaV hg,zh,zpi (k:=k+1) n w hn hw fs[i] (hf _ hgm) (by omega),aF]
   rw [show (C (k+10) 125 [.agg [.d (.list 3 a),.d (.list 2 (A1 gs))],.agg [.d (.int .i64 (fs[i]).1),.d (.list 1 (I1 (subF n w fs[i]).2))]])=some r from e1,R54 e2 e3,zE hi (m:=fs.length) (by omega)]
   refine ih (i+1) j ws (by omega) (by omega) e4 (fun z=>?_) (by omega)
   rw [e5,hmem,List.take_succ_eq_append_getElem hi,List.map_append,List.mem_append,List.map_singleton,List.mem_singleton]
 have h37:=(hi (k+2) (by omega)).2
 unfold ia at *
 rw [F120.run,zmZ (k:=k+5) n w hw (by omega),bB,hn,ite'_nt,h37,bB,ite'_nt,ite'_t (zY (by omega))]
 exact main fs.length 0 (k+10) [] (by omega) (by omega) (by simp [SSA]) (by simp) (Nat.zero_le _)
end Go.Proofs.YtiacahdabflcdaaGreat.Q
namespace Go.Proofs.YtiacahdabflcdaaGreat.Q
open Go Ovi
variable {k:Nat}
structure Gd (a:Ovi.Rows) (fs:List Atom):Prop where
 fit:Fit Rl (.list 3 a)
 hal:a.length≤1048576
 hI:∀ x∈fs,∀ z∈x.2,inI z
 hs:zD fs+fs.length≤1048576
 hR:∀ x∈fs,inI x.1
structure Vl (a:Ovi.Rows) (fs:List Atom):Prop where
 ss:SSA fs
 l3:∀ x∈fs,x.2.length≤3
 n30:fs.length≤30
 rel:∀ x∈fs,0≤x.1∧x.1 < (a.length:Int)
 ar3:∀ r:Int,0≤r→r < (a.length:Int)→ar a r≤3
theorem zi5:∀ {l:List Atom},(∀ (i:Nat) x y,l[i]? = some x→l[i+1]? = some y→ltA x y=true)→SSA l
 | [],_=>by simp [SSA]
 | [x],_=>by simp [SSA]
 | x::y::l,h=>by
  have h1:=zi5 (l:=y::l) (fun i a b ha hb=>h (i+1) a b ha hb)
  have h0:=h 0 x y rfl rfl
  refine List.pairwise_cons.2 ⟨fun z hz=>?_,h1⟩
  rcases List.mem_cons.1 hz with rfl | hz
  ·exact h0
  ·exact swoA.trans _ _ _ h0 ((List.pairwise_cons.1 h1).1 z hz)
theorem zi6 {fs:List Atom} (h:∀ x∈fs,x.2.length≤3):zD fs≤3 * fs.length:=by
 induction fs with
 | nil=>simp [zD]
 | cons x l ih =>
  have h1:=ih (fun y hy=>h y (List.mem_cons_of_mem _ hy))
  have h2:=h x List.mem_cons_self
  simp only [zD,List.map_cons,List.sum_cons,List.length_cons] at *
  omega
theorem Gd.inst {a:Ovi.Rows} {fs:List Atom} (h:Gd a fs):∃ ib,InstY a fs ib∧(ib=true→Vl a fs):=by
 have hs:=h.hs
 obtain ⟨ib,h1,h2⟩:=zn3 h.fit fs h.hI (by omega) h.hal
 refine ⟨ib,⟨h.hal,h2,fun hb=>(h1 hb).1,fun x hx=>by have:=zah hx;omega,by omega⟩,fun hb=>?_⟩
 obtain ⟨⟨g1,g2⟩,g3,g4,g5⟩:=h1 hb
 exact ⟨zi5 fun i x y hx hy=>by unfold ltA;rw [← zjI,decide_eq_true_eq];exact g4 i x y hx hy,g3,g1,fun x hx=>(g2 x hx).1,g5⟩
theorem Gd.fx {a:Ovi.Rows} {fs:List Atom} (h:Gd a fs):∀ x∈fs,x.2.length≤1048576:=fun x hx=>by
 have:=zah hx
 have:=h.hs
 omega
theorem Gd.of3 {a:Ovi.Rows} {fs gs:List Atom} (h:Gd a fs) (hR:∀ x∈gs,inI x.1) (hI:∀ x∈gs,∀ z∈x.2,inI z) (h3:∀ x∈gs,x.2.length≤3) (hn:gs.length≤30):Gd a gs :=
 ⟨h.fit,h.hal,hI,by have:=zi6 h3;omega,hR⟩
end Go.Proofs.YtiacahdabflcdaaGreat.Q
namespace Go.Proofs.YtiacahdabflcdaaGreat.Q
open Go Ovi
variable {k:Nat}
def hd (b:List Int) (x:Atom):Atom:=match insG b x.2 with
 | some vs=>(x.1,vs)
 | none=>(0,[])
def setE (b:List Int):List Int→Int→List Int
 | [],_=>b
 | z::zs,n=>setE (b.set z.toNat (neg n)) zs (n+1)
theorem zg4 {b:List Int}:∀ {ts vs:List Int},insG b ts=some vs→(∀ t∈ts,okV (val b t)=true)∧vs=ts.map (val b)
 | [],vs,h=>by cases h;exact ⟨by simp,rfl⟩
 | t::ts,vs,h=>by
  rw [insG] at h
  by_cases hok:okV (val b t)=true
  ·rw [if_pos hok] at h
   obtain ⟨ws,hw,rfl⟩:=Option.map_eq_some_iff.1 h
   obtain ⟨h1,h2⟩:=zg4 hw
   refine ⟨fun t' ht=>?_,by rw [h2];rfl⟩
   rcases List.mem_cons.1 ht with rfl | ht
   ·exact hok
   ·exact h1 t' ht
  ·rw [if_neg hok] at h;cases h
theorem zoS {v:Int} (h:okV v=true):inI v:=by
 unfold okV at h
 rw [decide_eq_true_eq] at h
 unfold inI;omega
theorem zfx (b:List Int) (x:Atom):(hd b x).2.length≤x.2.length:=by
 unfold hd
 cases h:insG b x.2 with
 | none=>simp
 | some vs=>exact Nat.le_of_eq (zjV h)
theorem zpp (b:List Int) (x:Atom):∀ v∈(hd b x).2,inI v:=by
 unfold hd
 cases h:insG b x.2 with
 | none=>simp
 | some vs =>
  obtain ⟨h1,h2⟩:=zg4 h
  intro v hv
  replace hv:v∈vs:=hv
  rw [h2] at hv
  obtain ⟨t,ht,rfl⟩:=List.mem_map.1 hv
  exact zoS (h1 t ht)
def tf (fs:List Atom) (d:Dep) (b ev:List Int):List Atom:=can (fs++d.head.map (hd (setE b ev (nx fs))))
def tg (fs:List Atom) (d:Dep) (b ev:List Int):List Atom × Int :=
 if nx fs+(ev.length:Int) > 40 then (fs,3) else if ((tf fs d b ev).length:Int) > 30 then (fs,3) else (tf fs d b ev,1)
def pr (a:Ovi.Rows) (fs:List Atom) (c:Int):Option Res:=some [(true,[.row 112 3 a,.frow 114 2 1 (A1 fs)]),(false,[.d (.int .i64 c)])]
theorem c42x {a:Ovi.Rows} {fs:List Atom} {f:Ovi.Rows→Ovi.Rows→Option Res}:(zb (some [(true,[.row 112 3 a,.frow 114 2 1 (A1 fs)])]) fun r16=>zc (resO 112 3 1 true 2 r16 0 0) fun l55=>zc (resF 114 2 1 1 true 2 r16 0 1) fun l53=>f l55 l53)=f a (A1 fs):=rfl
def hr (r:Int) (o:Option (List Int)):Int:=match o with
 | some _=>r
 | none=>0
theorem zm9 {r:Int} {o:Option (List Int)} {f:Int→Ovi.Rows→Bool→Option Res}:(zb (okO r [] o) fun r16=>zg (resI .i64 2 true 2 r16 0 0) fun n17=>zc (resO 3 1 2 true 2 r16 0 1) fun l53=>zj (resB 2 false 1 r16 1 0) fun b19=>f n17 l53 b19)=f (hr r o) (I1 (o.getD [])) o.isSome:=by
 cases o<;>rfl
theorem zm4 (b:List Int) (x:Atom):hd b x=(hr x.1 (insG b x.2),(insG b x.2).getD []):=by
 unfold hd
 cases insG b x.2<;>rfl
theorem l44 {a:Ovi.Rows} {fs:List Atom} (hg:Gd a fs) (hv:Vl a fs) (d:Dep) (hT:∀ x∈d.head,okT x.2) (hz:Dsz d) (hh:d.head.length≤2) (b ev:List Int) (hb:b.length=5) (he:∀ z∈ev,0≤z∧z≤4) (hel:ev.length≤1000000) (hn40:0≤nx fs∧nx fs≤40) (hk:2000000≤k) :
  F44.L8 (k+20) (C (k+20)) (k+20) (nx fs) (ev.length:Int) 0 a (A1 fs) [] [] (A1 d.body) (A1 d.head) d.egd d.l d.r (I1 b) (I1 ev)=pr a (tg fs d b ev).1 (tg fs d b ev).2:=by
 have hmax:(1048576:Nat)≤maxLen:=by decide
 have hs:=hg.hs
 have hn30:=hv.n30
 have hcp:C (k+20) 42 [.agg [.d (.list 3 a),.d (.list 2 (A1 fs))]]=some [(true,[.row 112 3 a,.frow 114 2 1 (A1 fs)])]:=c42 (k:=k+16) hg.hal fs hg.fx (by omega) (by omega)
 have key:∀ (b':List Int) (nxt:Int),b'.length=5→nxt=nx fs+(ev.length:Int)→b'=setE b ev (nx fs)→F44.L15 (k+20) (C (k+20)) (k+20) (I1 b') nxt (A1 d.head) (d.head.length:Int) 0 a (A1 fs) [] [] a (A1 fs)=pr a (tg fs d b ev).1 (tg fs d b ev).2:=by
  intro b' nxt hb' hnx hbe
  have main:∀ (m i n:Nat),i+m=d.head.length→m < n→F44.L15 (k+20) (C (k+20)) n (I1 b') nxt (A1 d.head) (d.head.length:Int) (i:Int) a (A1 fs) [] [] a (A1 (fs++(d.head.take i).map (hd b')))=pr a (tg fs d b ev).1 (tg fs d b ev).2:=by
   intro m
   induction m with
   | zero =>
    intro i n hm hn
    obtain ⟨n,rfl⟩:∃ j,n=j+1:=⟨n - 1,by omega⟩
    obtain rfl:i=d.head.length:=by omega
    have e99:=c92 (k:=k+16) (fs++d.head.map (hd b')) (fun x hx=>by
     rcases List.mem_append.1 hx with hx | hx
     ·exact hg.fx x hx
     ·obtain ⟨y,hy,rfl⟩:=List.mem_map.1 hx
      have h1:=zfx b' y
      have h2:=zah hy
      have h3:=hz.2
      omega) (by rw [List.length_append,List.length_map];omega) (by omega)
    rw [F44.L15.succ,ite'_f (lt_f (by omega)),List.take_length,e99]
    simp only [zl,zy,zJ,zh]
    have hx:can (fs++d.head.map (hd b'))=tf fs d b ev:=by unfold tf;rw [hbe]
    rw [hx,zq]
    unfold tg
    by_cases h1:nxt > 40
    ·rw [ite'_t (by simpa using h1),if_pos (by omega),hcp,c42x]
     rfl
    ·rw [ite'_f (by simpa using h1),if_neg (by omega)]
     by_cases h2:((tf fs d b ev).length:Int) > 30
     ·rw [ite'_t (by simpa using h2),if_pos h2,hcp,c42x]
      rfl
     ·rw [ite'_f (by simpa using h2),if_neg h2]
      rfl
   | succ m ih =>
    intro i n hm hn
    obtain ⟨n,rfl⟩:∃ j,n=j+1:=⟨n - 1,by omega⟩
    have hi:i < d.head.length:=by omega
    have hgt:=List.getElem?_eq_getElem hi
    have hm2:=List.getElem_mem hi
    have hlt:=zah hm2
    have hz2:=hz.2
    have:=ih (i+1) n (by omega) (by omega)
    rw [List.take_succ_eq_append_getElem hi,List.map_append,List.map_singleton,← List.append_assoc] at this
    rw [F44.L15.succ,ite'_t (lt_t hi),zq,ite'_t (zo hi),zaU hgt,zd,zaV hgt,zh,c91g (k:=k+17) d.head[i] b' (hT _ hm2) (by omega) hb' (by omega),zm9,zE hi (m:=d.head.length) (by omega),zq,ite'_t (zY (by rw [List.length_append,List.length_map,List.length_take];simp only [List.length_cons,List.length_nil];omega))]
    rw [zm4,← zh8] at this
    exact this
  have:=main d.head.length 0 (k+20) (by omega) (by omega)
  simpa using this
 have outer:∀ (m i n:Nat) (b':List Int) (nxt:Int),i+m=ev.length→m < n→b'.length=5→nxt=nx fs+(i:Int)→setE b' (ev.drop i) nxt=setE b ev (nx fs) →
   F44.L8 (k+20) (C (k+20)) n nxt (ev.length:Int) (i:Int) a (A1 fs) [] [] (A1 d.body) (A1 d.head) d.egd d.l d.r (I1 b') (I1 ev)=pr a (tg fs d b ev).1 (tg fs d b ev).2:=by
  intro m
  induction m with
  | zero =>
   intro i n b' nxt hm hn hb' hx hse
   obtain ⟨n,rfl⟩:∃ j,n=j+1:=⟨n - 1,by omega⟩
   obtain rfl:i=ev.length:=by omega
   rw [List.drop_length] at hse
   rw [F44.L8.succ,ite'_f (lt_f (by omega)),hcp,c42x,zq]
   exact key b' nxt hb' hx hse
  | succ m ih =>
   intro i n b' nxt hm hn hb' hx hse
   obtain ⟨n,rfl⟩:∃ j,n=j+1:=⟨n - 1,by omega⟩
   have hi:i < ev.length:=by omega
   have hgt:=List.getElem?_eq_getElem hi
   obtain ⟨z0,z4⟩:=he _ (List.getElem_mem hi)
   obtain ⟨q,hq⟩:∃ q:Nat,ev[i]=(q:Int):=⟨ev[i].toNat,by omega⟩
   have hq5:q < b'.length:=by omega
   rw [List.drop_eq_getElem_cons hi,setE] at hse
   rw [F44.L8.succ,ite'_t (lt_t hi),zn,ite'_t (zo hi),I1_c hgt,zd,show (C (k+20) 90 [.d (.int .i64 nxt)])=io (neg nxt) from by rw [F90.run,zac (by omega) (by omega)];rfl,iB',hq,zn,ite'_t (zo hq5),zE hi (m:=ev.length) (by omega),zac (n:=nxt+1) (by omega) (by omega)]
   rw [show ((q:Int)).toNat=q from rfl,zcv _ hq5]
   rw [hq] at hse
   exact ih (i+1) n _ _ (by omega) (by omega) (by rw [List.length_set];exact hb') (by omega) hse
 exact outer ev.length 0 (k+20) b (nx fs) (by omega) (by omega) hb (by simp) rfl
end Go.Proofs.YtiacahdabflcdaaGreat.Q
namespace Go.Proofs.YtiacahdabflcdaaGreat.Q
open Go Ovi
variable {k:Nat}
def Sp (r:Option Res) (a:Ovi.Rows) (fs:List Atom) (c:Int):Prop:=∃ r',r=some r'∧resL 3 2 true 2 r' 0 0=some a∧resL 2 2 true 2 r' 0 1=some (A1 fs)∧resI .i64 2 false 1 r' 1 0=some c
theorem Sp.pr (a:Ovi.Rows) (fs:List Atom) (c:Int):Sp (pr a fs c) a fs c:=⟨_,rfl,rfl,rfl,by simp [resI,zaf,zz]⟩
theorem Sp.w (a:Ovi.Rows) (fs:List Atom) (c:Int):Sp (some [(true,[.row 112 3 a,.row 114 2 (A1 fs)]),(false,[.d (.int .i64 c)])]) a fs c:=⟨_,rfl,rfl,rfl,by simp [resI,zaf,zz]⟩
theorem Sp.d (a:Ovi.Rows) (fs:List Atom) (c:Int):Sp (some [(true,[.d (.list 3 a),.d (.list 2 (A1 fs))]),(false,[.d (.int .i64 c)])]) a fs c:=⟨_,rfl,by simp [resL,zaf,D.asL],by simp [resL,zaf,D.asL],by simp [resI,zaf,zz]⟩
theorem l71 {a:Ovi.Rows} {fs:List Atom} (hg:Gd a fs) (hv:Vl a fs) (d:Dep) (hT:∀ x∈d.head,okT x.2) (hz:Dsz d) (hh:d.head.length≤2) (b ev:List Int) (hb:b.length=5) (hbI:∀ v∈b,inI v) (he:∀ z∈ev,0≤z∧z≤4) (hel:ev.length≤1000000) (hn40:0≤nx fs∧nx fs≤40) (hk:2000000≤k) :
  Sp (F71.L15 (k+20) (C (k+20)) (k+20) 0 a (A1 fs) (A1 d.body) (A1 d.head) d.egd d.l d.r [] [] a (A1 fs) (I1 b) (I1 ev)) a (tg fs d b ev).1 (tg fs d b ev).2:=by
 have hmax:(1048576:Nat)≤maxLen:=by decide
 have hs:=hg.hs
 have hn30:=hv.n30
 have key:∀ (b':List Int),b'.length=5→(∀ v∈b',inI v)→nx fs+(ev.length:Int)≤40→b'=setE b ev (nx fs)→Sp (F71.L23 (k+20) (C (k+20)) (k+20) (I1 b') 0 (A1 d.body) (A1 d.head) d.egd d.l d.r [] [] a (A1 fs) a (A1 fs)) a (tg fs d b ev).1 (tg fs d b ev).2:=by
  intro b' hb' hbI' hle hbe
  have main:∀ (m i n:Nat) (gs:List Atom),i+m=d.head.length→m < n→SSA gs→(∀ z,z∈gs↔z∈fs++(d.head.take i).map (hd b'))→gs.length≤fs.length+i→Sp (F71.L23 (k+20) (C (k+20)) n (I1 b') (i:Int) (A1 d.body) (A1 d.head) d.egd d.l d.r [] [] a (A1 fs) a (A1 gs)) a (tg fs d b ev).1 (tg fs d b ev).2:=by
   intro m
   induction m with
   | zero =>
    intro i n gs hm hn hS hmem hgl
    obtain ⟨n,rfl⟩:∃ j,n=j+1:=⟨n - 1,by omega⟩
    obtain rfl:i=d.head.length:=by omega
    have e:gs=tf fs d b ev:=by
     refine zkj hS (zd4 _) fun z=>?_
     rw [hmem z,List.take_length,hbe]
     exact (zbM _ _).symm
    subst e
    rw [F71.L23.succ,zq,zq,ite'_f (lt_f (by omega))]
    unfold tg
    rw [if_neg (by omega)]
    by_cases h2:((tf fs d b ev).length:Int) > 30
    ·rw [ite'_t (by simpa using h2),if_pos h2]
     exact Sp.d a fs 3
    ·rw [ite'_f (by simpa using h2),if_neg h2,c68 (k:=k+17) hg.hal (tf fs d b ev) (fun z hz'=>by
      rcases List.mem_append.1 ((zbM _ _).1 hz') with hx | hx
      ·exact hg.fx z hx
      ·obtain ⟨y,hy,rfl⟩:=List.mem_map.1 hx
       have h1:=zfx (setE b ev (nx fs)) y
       have h2:=zah hy
       have h3:=hz.2
       omega) (by omega) (by omega),c42x]
     exact Sp.w a _ 1
   | succ m ih =>
    intro i n gs hm hn hS hmem hgl
    obtain ⟨n,rfl⟩:∃ j,n=j+1:=⟨n - 1,by omega⟩
    have hi:i < d.head.length:=by omega
    have hgt:=List.getElem?_eq_getElem hi
    have hm2:=List.getElem_mem hi
    have hlt:=zah hm2
    have hz2:=hz.2
    have hl2:=zfx b' d.head[i]
    obtain ⟨r,ws,e1,e2,e3,e4,e5,e6⟩:=c125 (k:=k+15) (a:=a) gs (hd b' d.head[i]) hS (fun z hz'=>by
      rcases List.mem_append.1 ((hmem z).1 hz') with hx | hx
      ·exact hg.fx z hx
      ·obtain ⟨y,hy,rfl⟩:=List.mem_map.1 hx
       have h1:=zfx b' y
       have h2:=zah (List.mem_of_mem_take hy)
       have h3:=hz.2
       omega) (by omega) (by omega) (by omega)
    rw [F71.L23.succ,zq,ite'_t (lt_t hi),ite'_t (zo hi),zaU hgt,zd,zaV hgt,zh,zmW (k:=k+16) d.head[i] b' (hT _ hm2) (by omega) hb' hbI' (by omega),zm9,zE hi (m:=d.head.length) (by omega)]
    rw [show hd b' d.head[i]=(hr d.head[i].1 (insG b' d.head[i].2),(insG b' d.head[i].2).getD []) from zm4 _ _] at e1
    rw [show (C (k+20) 125 [.agg [.d (.list 3 a),.d (.list 2 (A1 gs))],.agg [.d (.int .i64 (hr d.head[i].1 (insG b' d.head[i].2))),.d (.list 1 (I1 ((insG b' d.head[i].2).getD [])))]])=some r from e1,R54 e2 e3]
    refine ih (i+1) n ws (by omega) (by omega) e4 (fun z=>?_) (by omega)
    rw [e5,hmem,List.take_succ_eq_append_getElem hi,List.map_append,← List.append_assoc,List.mem_append (s:=fs++_),List.map_singleton,List.mem_singleton]
  exact main d.head.length 0 (k+20) fs (by omega) (by omega) hv.ss (by simp) (by omega)
 have outer:∀ (m i n:Nat) (b':List Int),i+m=ev.length→m < n→b'.length=5→(∀ v∈b',inI v)→(i≠0→nx fs+(i:Int)≤40)→setE b' (ev.drop i) (nx fs+(i:Int))=setE b ev (nx fs) →
   Sp (F71.L15 (k+20) (C (k+20)) n (i:Int) a (A1 fs) (A1 d.body) (A1 d.head) d.egd d.l d.r [] [] a (A1 fs) (I1 b') (I1 ev)) a (tg fs d b ev).1 (tg fs d b ev).2:=by
  intro m
  induction m with
  | zero =>
   intro i n b' hm hn hb' hbI' h40 hse
   obtain ⟨n,rfl⟩:∃ j,n=j+1:=⟨n - 1,by omega⟩
   obtain rfl:i=ev.length:=by omega
   rw [List.drop_length] at hse
   rw [F71.L15.succ,zn,ite'_f (lt_f (by omega))]
   refine key b' hb' hbI' ?_ hse
   by_cases h0:ev.length=0
   ·rw [h0];omega
   ·exact h40 h0
  | succ m ih =>
   intro i n b' hm hn hb' hbI' h40 hse
   obtain ⟨n,rfl⟩:∃ j,n=j+1:=⟨n - 1,by omega⟩
   have hi:i < ev.length:=by omega
   have hgt:=List.getElem?_eq_getElem hi
   obtain ⟨z0,z4⟩:=he _ (List.getElem_mem hi)
   obtain ⟨q,hq⟩:∃ q:Nat,ev[i]=(q:Int):=⟨ev[i].toNat,by omega⟩
   have hq5:q < b'.length:=by omega
   rw [List.drop_eq_getElem_cons hi,setE] at hse
   have e75:=(zj2 (k:=k+14) a fs hg.hI (by omega) (by omega)).2
   unfold ia at e75
   rw [F71.L15.succ,zn,ite'_t (lt_t hi),show (C (k+20) 122 [.agg [.d (.list 3 a),.d (.list 2 (A1 fs))]])=io (nx fs) from e75,iB',zac (n:=nx fs+(i:Int)) (by omega) (by omega)]
   by_cases h4:nx fs+(i:Int) ≥ 40
   ·rw [ite'_t (by simpa using h4)]
    unfold tg
    rw [if_pos (by omega)]
    exact Sp.w a fs 3
   ·rw [ite'_f (by simpa using h4),ite'_t (zo hi),I1_c hgt,zd,show (C (k+20) 123 [.d (.int .i64 (nx fs+(i:Int)))])=io (neg (nx fs+(i:Int))) from by rw [F123.run,zac (by omega) (by omega)];rfl,iB',hq,zn,ite'_t (zo hq5),zE hi (m:=ev.length) (by omega),show ((q:Int)).toNat=q from rfl,zcv _ hq5]
    rw [hq] at hse
    refine ih (i+1) n _ (by omega) (by omega) (by rw [List.length_set];exact hb') (fun v hv'=>?_) (fun _=>by omega) ?_
    ·rcases List.mem_or_eq_of_mem_set hv' with hv' | rfl
     ·exact hbI' v hv'
     ·unfold inI neg;omega
    ·rw [show nx fs+((i+1:Nat):Int)=nx fs+(i:Int)+1 by omega]
     exact hse
 exact outer ev.length 0 (k+20) b (by omega) (by omega) hb hbI (by simp) (by simp)
end Go.Proofs.YtiacahdabflcdaaGreat.Q
namespace Go.Proofs.YtiacahdabflcdaaGreat.Q
open Go Ovi
variable {k:Nat}
theorem aB {a X:Ovi.Rows} {f:Ovi.Rows→Ovi.Rows→Bool→Option Res}:(zb (some [(true,[.row 112 3 a,.frow 114 2 1 X]),(false,[.d (.bool true)])]) fun r=>zc (resO 112 3 2 true 2 r 0 0) fun l=>zc (resF 114 2 1 2 true 2 r 0 1) fun m=>zj (resB 2 false 1 r 1 0) fun b=>f l m b)=f a X true:=rfl
theorem prB {a:Ovi.Rows} {fs:List Atom} {c:Int} {f:Ovi.Rows→Ovi.Rows→Int→Option Res}:(zb (pr a fs c) fun r=>zc (resO 112 3 2 true 2 r 0 0) fun l=>zc (resF 114 2 1 2 true 2 r 0 1) fun m=>zg (resI .i64 2 false 1 r 1 0) fun n=>f l m n)=f a (A1 fs) c:=rfl
theorem mm {p q:Int} (hp:okV p=true) (hq:okV q=true) (h:p < 0∨q < 0):isN (minI p q)=true∧okV (maxI p q)=true∧inI (minI p q)∧inI (maxI p q):=by
 unfold okV at *
 rw [decide_eq_true_eq] at hp hq
 unfold isN inI minI maxI
 rw [decide_eq_true_eq,decide_eq_true_eq]
 by_cases h1:q < p
 ·rw [if_pos h1,if_neg (by omega)];omega
 ·rw [if_neg h1]
  by_cases h2:q > p
  ·rw [if_pos h2];omega
  ·rw [if_neg h2];omega
def eg (fs:List Atom) (p q:Int):List Atom × Int:=if p < 0∨q < 0 then (subI (-1 - minI p q) (maxI p q) fs,1) else (fs,2)
theorem c86 {a:Ovi.Rows} {fs:List Atom} (hg:Gd a fs) (hi:Inst a fs true) {p q:Int} (hp:okV p=true) (hq:okV q=true) (hk:2000000≤k):C (k+12) 86 [ia a fs,.d (.int .i64 p),.d (.int .i64 q)]=pr a (eg fs p q).1 (eg fs p q).2:=by
 have hs:=hg.hs
 have e134:∀ v,C (k+11) 145 [.d (.int .i64 v)]=bo (decide (v < 0)):=fun v=>by rw [F145.run];rfl
 have hsub:p < 0∨q < 0→(zb (C (k+11) 146 [.d (.int .i64 (minI p q))]) fun r8=>zg (resI IntKind.i64 2 false 1 r8 0 0) fun n9=>zj (resB 2 false 1 r8 1 0) fun b10=>zb (C (k+11) 147 [AV.agg [AV.d (D.list 1 [[D.int IntKind.i64 n9]]),AV.d (D.list 1 [[D.int IntKind.i64 (maxI p q)]])],AV.agg [AV.d (D.list 3 a),AV.d (D.list 2 (A1 fs))]]) fun r11=>zc (resO 112 3 2 true 2 r11 0 0) fun l14=>zc (resF 114 2 1 2 true 2 r11 0 1) fun l15=>zj (resB 2 false 1 r11 1 0) fun b14=>some ([(true,[RL.row 112 3 l14,RL.frow 114 2 1 l15]),(false,[RL.d (D.int IntKind.i64 (1:Int))])]))=pr a (subI (-1 - minI p q) (maxI p q) fs) 1:=by
  intro h
  obtain ⟨m1,m2,m3,m4⟩:=mm hp hq h
  have hn:=zgb m1
  have e136:=zpg (k:=k) (a:=a) (fs:=fs) (-1 - minI p q) (maxI p q) (by unfold zbw;rw [m2,Bool.and_true,decide_eq_true_eq];omega) hi hg.hal hg.fx hg.hI (by omega) hk
  unfold s1 ia at e136
  rw [c146 (k:=k+9) m3,nnB,if_pos m1,e136,aB]
  rfl
 unfold ia
 rw [F86.run,e134,e134,bB,bB]
 unfold eg
 by_cases h1:p < 0
 ·rw [decide_eq_true h1,ite'_nt,if_pos (.inl h1)]
  exact hsub (.inl h1)
 ·rw [decide_eq_false h1,ite'_nf]
  by_cases h2:q < 0
  ·rw [decide_eq_true h2,ite'_nt,if_pos (.inr h2)]
   exact hsub (.inr h2)
  ·rw [decide_eq_false h2,ite'_nf,if_neg (by omega),c42 (k:=k+7) hg.hal fs hg.fx (by omega) (by omega),c42x]
   rfl
theorem zp1 {n w v:Int} (hw:inI w) (hv:inI v):inI (sv n w v):=by
 unfold sv
 by_cases h:v=neg n
 ·rw [if_pos h];exact hw
 ·rw [if_neg h];exact hv
theorem znM {a:Ovi.Rows} {fs:List Atom} (hg:Gd a fs) (hv:Vl a fs) {n w:Int} (hw:inI w):Gd a (subI n w fs):=by
 refine hg.of3 (fun x hx=>?_) (fun x hx=>?_) (fun x hx=>?_) ?_
 ·obtain ⟨y,hy,rfl⟩:=List.mem_map.1 ((zbM _ _).1 hx)
  exact hg.hR y hy
 ·obtain ⟨y,hy,rfl⟩:=List.mem_map.1 ((zbM _ _).1 hx)
  intro z hz
  obtain ⟨t,ht,rfl⟩:=List.mem_map.1 hz
  exact zp1 hw (hg.hI y hy t ht)
 ·obtain ⟨y,hy,rfl⟩:=List.mem_map.1 ((zbM _ _).1 hx)
  have:=hv.l3 y hy
  simpa [subF] using this
 ·have:=zkB (fs.map (subF n w))
  rw [List.length_map] at this
  have h2:=hv.n30
  unfold subI
  omega
theorem znW {a:Ovi.Rows} {fs:List Atom} {ib:Bool} {d:Dep} (hg:Gd a fs) (hi:InstY a fs ib) (hv:ib=true→Vl a fs) (hd:DepY a d) (hz:Dsz d) (b:List Int) (hI:∀ v∈b,inI v) (hb:b.length≤1048576) :
  ∃ vb fs' c,(vb=false↔c=0)∧Gd a fs'∧∀ k,3000000≤k→C (k+20) 118 [ia a fs,da d,.d (.list 1 (I1 b))]=bo vb∧C (k+21) 44 [ia a fs,da d,.d (.list 1 (I1 b))]=pr a fs' c∧Sp (C (k+21) 71 [ia a fs,da d,.d (.list 1 (I1 b))]) a fs' c:=by
 have hmax:(1048576:Nat)≤maxLen:=by decide
 have hs:=hg.hs
 obtain ⟨vb,hvb,hact⟩:=actv hi hd hz b hI hb
 have c42k:∀ k,2000000≤k→C (k+20) 42 [.agg [.d (.list 3 a),.d (.list 2 (A1 fs))]]=some [(true,[.row 112 3 a,.frow 114 2 1 (A1 fs)])]:=fun k hk=>c42 (k:=k+16) hg.hal fs hg.fx (by omega) (by omega)
 have c68k:∀ k,2000000≤k→C (k+20) 68 [.agg [.d (.list 3 a),.d (.list 2 (A1 fs))]]=some [(true,[.row 112 3 a,.frow 114 2 1 (A1 fs)])]:=fun k hk=>c68 (k:=k+17) hg.hal fs hg.fx (by omega) (by omega)
 cases hvb0:vb with
 | false =>
  subst hvb0
  refine ⟨false,fs,0,by simp,hg,fun k hk=>?_⟩
  have h:=hact k (by omega)
  have c1:=c42k k (by omega)
  have c2:=c68k k (by omega)
  refine ⟨h.2,?_,?_⟩
  ·unfold ia da at *
   rw [F44.run,h.1,bB,ite'_nf,c1,c42x];rfl
  ·unfold ia da at *
   rw [F71.run,c2,c42x,h.2,bB,ite'_nf]
   exact Sp.w a fs 0
 | true =>
  subst hvb0
  obtain ⟨hib,hb5,hbad,hmiss,hne⟩:=hvb rfl
  subst hib
  have hV:=hv rfl
  have hD:=hd.1
  cases he:d.egd with
  | true =>
   obtain ⟨hhd,hl,hr⟩:=hD.e he
   have okvar:∀ z,z8 d.body z→okV (b.getD z.toNat 0)=true∧0≤z∧z≤4:=by
    intro z hzv
    obtain ⟨z0,z4⟩:=zik hD.bv hzv
    obtain ⟨_,x,hx,hzx⟩:=hzv
    have hm:=hmiss x hx
    cases hins:insG b x.2 with
    | none=>rw [zdC hins] at hm;cases hm
    | some vs =>
     have:=(zg4 hins).1 z hzx
     unfold val at this
     rw [if_pos z0] at this
     exact ⟨this,z0,z4⟩
   obtain ⟨hp,l0,l4⟩:=okvar d.l hl
   obtain ⟨hq,r0,r4⟩:=okvar d.r hr
   obtain ⟨p,hpe⟩:∃ p:Nat,d.l=(p:Int):=⟨d.l.toNat,by omega⟩
   obtain ⟨q,hqe⟩:∃ q:Nat,d.r=(q:Int):=⟨d.r.toNat,by omega⟩
   have hp5:p < b.length:=by omega
   have hq5:q < b.length:=by omega
   have hbp:b[p]? = some (b.getD p 0):=by rw [List.getD_eq_getElem?_getD,List.getElem?_eq_getElem hp5];rfl
   have hbq:b[q]? = some (b.getD q 0):=by rw [List.getD_eq_getElem?_getD,List.getElem?_eq_getElem hq5];rfl
   rw [hpe,Int.toNat_natCast] at hp
   rw [hqe,Int.toNat_natCast] at hq
   refine ⟨true,(eg fs (b.getD p 0) (b.getD q 0)).1,(eg fs (b.getD p 0) (b.getD q 0)).2,?_,?_,fun k hk=>?_⟩
   ·unfold eg
    by_cases h:b.getD p 0 < 0∨b.getD q 0 < 0
    ·rw [if_pos h];simp
    ·rw [if_neg h];simp
   ·unfold eg
    by_cases h:b.getD p 0 < 0∨b.getD q 0 < 0
    ·rw [if_pos h];exact znM hg hV (mm hp hq h).2.2.2
    ·rw [if_neg h];exact hg
   ·have h:=hact k (by omega)
    have c2:=c68k k (by omega)
    have e93:=c86 (k:=k+8) hg hi.ok hp hq (by omega)
    refine ⟨h.2,?_,?_⟩
    ·unfold ia da at *
     rw [he,hpe,hqe] at h ⊢
     rw [F44.run,h.1,bB,ite'_nt,ite'_t rfl,zn,ite'_t (zo hp5),I1_c hbp,zd,ite'_t (zo hq5),I1_c hbq,zd,e93,prB]
     rfl
    ·have hsub:b.getD p 0 < 0∨b.getD q 0 < 0→(zb (C (k+20) 119 [.d (.int .i64 (minI (b.getD p 0) (b.getD q 0)))]) fun r17=>zg (resI IntKind.i64 2 false 1 r17 0 0) fun n18=>zj (resB 2 false 1 r17 1 0) fun b19=>zb (C (k+20) 120 [AV.agg [AV.d (D.list 1 [[D.int IntKind.i64 n18]]),AV.d (D.list 1 [[D.int IntKind.i64 (maxI (b.getD p 0) (b.getD q 0))]])],AV.agg [AV.d (D.list 3 a),AV.d (D.list 2 (A1 fs))]]) fun r20=>zc (resO 112 3 2 true 2 r20 0 0) fun l33=>zc (resF 114 2 1 2 true 2 r20 0 1) fun l55=>zj (resB 2 false 1 r20 1 0) fun b23=>some ([(true,[RL.row 112 3 l33,RL.row 114 2 l55]),(false,[RL.d (D.int IntKind.i64 (1:Int))])]))=some [(true,[RL.row 112 3 a,RL.row 114 2 (A1 (subI (-1 - minI (b.getD p 0) (b.getD q 0)) (maxI (b.getD p 0) (b.getD q 0)) fs))]),(false,[RL.d (D.int IntKind.i64 (1:Int))])]:=by
      intro h
      obtain ⟨m1,m2,m3,m4⟩:=mm hp hq h
      have hn:=zgb m1
      have hn30:=hV.n30
      have e73:=zpf (k:=k+9) (a:=a) (fs:=fs) (-1 - minI (b.getD p 0) (b.getD q 0)) (maxI (b.getD p 0) (b.getD q 0)) (by unfold zbw;rw [m2,Bool.and_true,decide_eq_true_eq];omega) m4 hi.ok hg.hal hg.fx (by omega) (by omega)
      unfold s1 ia at e73
      rw [c119 (k:=k+18) m3,nnB,if_pos m1,e73,aB]
     unfold ia da at *
     rw [he,hpe,hqe] at h ⊢
     rw [F71.run,c2,c42x,h.2,bB,ite'_nt,ite'_t rfl,zn,ite'_t (zo hp5),I1_c hbp,zd,ite'_t (zo hq5),I1_c hbq,zd]
     unfold eg
     by_cases h1:b.getD p 0 < 0
     ·rw [ite'_f (decide_eq_false (by omega)),hsub (.inl h1),if_pos (.inl h1)]
      exact Sp.w a _ 1
     ·rw [ite'_t (decide_eq_true (by omega))]
      by_cases h2:b.getD q 0 < 0
      ·rw [ite'_f (decide_eq_false (by omega)),hsub (.inr h2),if_pos (.inr h2)]
       exact Sp.w a _ 1
      ·rw [ite'_t (decide_eq_true (by omega)),if_neg (by omega)]
       exact Sp.w a fs 2
  | false =>
   obtain ⟨hh2,hht⟩:=hD.t he
   obtain ⟨ev,hev,hevl,hex⟩:=znZ d hz
   have hz2:=hz.2
   have hev4:∀ z∈ev,0≤z∧z≤4:=fun z hzm=>by
    obtain ⟨⟨h0,x,hx,hzx⟩,_⟩:=(hev z).1 hzm
    exact ⟨h0,((hht x hx).2.2 z hzx).2⟩
   have hT:∀ x∈d.head,okT x.2:=fun x hx=>(hht x hx).2.2
   have h40:=zm7 fs
   have hl3:∀ x∈d.head,x.2.length≤3:=fun x hx=>by
    have h1:=(hht x hx).2.1
    have h2:=hV.ar3 x.1 (hht x hx).1.1 (hht x hx).1.2
    omega
   have hevn:ev.length≤1000000:=by have:=zi6 hl3;omega
   refine ⟨true,(tg fs d b ev).1,(tg fs d b ev).2,?_,?_,fun k hk=>?_⟩
   ·unfold tg
    by_cases h:nx fs+(ev.length:Int) > 40
    ·rw [if_pos h];simp
    ·rw [if_neg h]
     by_cases h2:((tf fs d b ev).length:Int) > 30
     ·rw [if_pos h2];simp
     ·rw [if_neg h2];simp
   ·unfold tg
    by_cases h:nx fs+(ev.length:Int) > 40
    ·rw [if_pos h];exact hg
    ·rw [if_neg h]
     by_cases h2:((tf fs d b ev).length:Int) > 30
     ·rw [if_pos h2];exact hg
     ·rw [if_neg h2]
      refine hg.of3 (fun x hx=>?_) (fun x hx=>?_) (fun x hx=>?_) (show (tf fs d b ev).length≤30 by omega)
      ·rcases List.mem_append.1 ((zbM _ _).1 hx) with hx | hx
       ·exact hg.hR x hx
       ·obtain ⟨y,hy,rfl⟩:=List.mem_map.1 hx
        have h1:=(hht y hy).1.1
        have h2:=(hht y hy).1.2
        have h3:=hg.hal
        unfold Q.hd
        cases insG (setE b ev (nx fs)) y.2 with
        | some vs=>show inI y.1;unfold inI;omega
        | none=>show inI 0;unfold inI;omega
      ·rcases List.mem_append.1 ((zbM _ _).1 hx) with hx | hx
       ·exact hg.hI x hx
       ·obtain ⟨y,hy,rfl⟩:=List.mem_map.1 hx
        exact zpp _ y
      ·rcases List.mem_append.1 ((zbM _ _).1 hx) with hx | hx
       ·exact hV.l3 x hx
       ·obtain ⟨y,hy,rfl⟩:=List.mem_map.1 hx
        have h1:=zfx (setE b ev (nx fs)) y
        have h2:=hl3 y hy
        omega
   ·have h:=hact k (by omega)
    have c2:=c68k k (by omega)
    have hx1:=(hex (k+17) (by omega)).1
    have hx2:=(hex (k+17) (by omega)).2
    have e94:C (k+20) 87 [.d (.list 1 (I1 b))]=some [(false,[.row 3 1 (I1 b)])]:=by
     have:C (k+20) 87 [.d (.list 1 (I1 b))]=zbn 3 [.d (.list 1 (I1 b))]:=by kernel_rfl
     rw [this]
     simp only [zbn,zbz]
     rw [show Nat.ble b.length 1099511627776=true from Nat.ble_eq_true_of_le (by omega)]
     rfl
    have e95:=(zj2 (k:=k+14) a fs hg.hI (by omega) (by omega)).1
    have g1:=l44 (k:=k) hg hV d hT hz hh2 b ev hb5 hev4 hevn h40 (by omega)
    have g2:=l71 (k:=k) hg hV d hT hz hh2 b ev hb5 hI hev4 hevn h40 (by omega)
    refine ⟨h.2,?_,?_⟩
    ·unfold ia da at *
     rw [he] at h hx1 g1 ⊢
     rw [F44.run,h.1,bB,ite'_nt,ite'_f rfl,e94]
     simp only [zl,zy,zh]
     rw [show (C (k+20) 88 [.agg [.d (.list 3 a),.d (.list 2 (A1 fs))]])=io (nx fs) from e95,iB',hx1]
     simp only [zl,zy,zh]
     rw [zn]
     exact g1
    ·unfold ia da at *
     rw [he] at h hx2 g2 ⊢
     rw [F71.run,c2,c42x,h.2,bB,ite'_nt,ite'_f rfl,zn,ite'_t (zY (by omega)),hx2]
     simp only [zl,zy,zh]
     exact g2
end Go.Proofs.YtiacahdabflcdaaGreat.Q
namespace Go.Proofs.YtiacahdabflcdaaGreat.Q
open Go Ovi
variable {k:Nat}
theorem zpW {fs xs:List Atom} (hf:∀ f∈fs,∀ v∈f.2,inI v):∀ c∈mtc fs xs,∀ v∈c,inI v:=by
 intro c hc v hv
 unfold mtc at hc
 rcases (zie _ _ _).1 hc with h | h
 ·cases h
 ·rcases zkQ fs xs tens c h v hv with h1 | ⟨f,h1,h2⟩
  ·simp [tens] at h1
   subst h1
   unfold inI;omega
  ·exact hf f h1 v h2
theorem zpX {fs xs:List Atom} {f:Ovi.Rows→Option Res}:(zb (mtr true fs xs) fun r=>zc (resO 27 1 1 false 1 r 0 0) f)=f (LL (mtc fs xs)):=rfl
theorem zoQ {fs xs:List Atom} {f:Ovi.Rows→Option Res}:(zb (mtrF true fs xs) fun r=>zc (resF 27 1 1 1 false 1 r 0 0) f)=f (LL (mtc fs xs)):=rfl
theorem zjd {l:BL} {i:Nat} {x:List Int} (h:l[i]? = some x):zw 1 (LL l) (i:Int).toNat 0=some (I1 x):=by
 rw [Int.toNat_natCast,zab (show (LL l)[i]? = some [.list 1 (I1 x)] by simp [LL,h])];simp [zN]
theorem zpc {a:Ovi.Rows} {fs:List Atom} {d:Dep} (hg:Gd a fs) (hi:InstY a fs true) (hd:DepY a d) (hz:Dsz d) :
  ∃ L:BL,L.length≤27000∧(∀ x∈L,x.length=5∧∀ v∈x,inI v)∧∀ k,3000000≤k→C (k+22) 84 [ia a fs,da d]=some [(false,[.frow 27 1 1 (LL L)])]∧C (k+22) 117 [ia a fs,da d]=some [(false,[.row 27 1 (LL L)])]:=by
 have hmax:(1048576:Nat)≤maxLen:=by decide
 have hD:=hd.1
 have hq:Qok a fs d.body (fun _=>true) true:=hi.qok hz.1 hD.b1 (by have:=hD.b2;omega) hD.bV hD.bv
 obtain ⟨m1,m2⟩:=zmE (hq.mok rfl)
 have m3:=zpW (fs:=fs) (xs:=d.body) hg.hI
 have:∀ b:List Int,∃ vb,b∈mtc fs d.body→∀ k,2000000≤k→C (k+20) 85 [ia a fs,da d,.d (.list 1 (I1 b))]=bo vb∧C (k+20) 118 [ia a fs,da d,.d (.list 1 (I1 b))]=bo vb:=by
  intro b
  by_cases h:b∈mtc fs d.body
  ·obtain ⟨vb,_,hv⟩:=actv hi hd hz b (m3 b h) (by rw [m2 b h];omega)
   exact ⟨vb,fun _=>hv⟩
  ·exact ⟨false,fun h'=>absurd h' h⟩
 obtain ⟨act,hact⟩:=Classical.axiomOfChoice this
 refine ⟨(mtc fs d.body).filter act,?_,fun x hx=>?_,fun k hk=>?_⟩
 ·have:=List.length_filter_le act (mtc fs d.body)
  omega
 ·have:=(List.mem_filter.1 hx).1
  exact ⟨m2 x this,m3 x this⟩
 ·have L100:∀ (m i n lo:Nat),lo≤i→i+m=(mtc fs d.body).length→m < n→F84.L5 (k+21) (C (k+21)) n ((mtc fs d.body).length:Int) (i:Int) a (A1 fs) (A1 d.body) (A1 d.head) d.egd d.l d.r (LL (((mtc fs d.body).take i).filter act)) (LL (mtc fs d.body)) lo=some [(false,[.frow 27 1 1 (LL ((mtc fs d.body).filter act))])]:=by
   intro m
   induction m with
   | zero =>
    intro i n lo hlo hm hn
    obtain ⟨n,rfl⟩:∃ j,n=j+1:=⟨n - 1,by omega⟩
    obtain rfl:i=(mtc fs d.body).length:=by omega
    rw [F84.L5.succ,ite'_f (lt_f (by omega)),List.take_length]
   | succ m ih =>
    intro i n lo hlo hm hn
    obtain ⟨n,rfl⟩:∃ j,n=j+1:=⟨n - 1,by omega⟩
    have hi':i < (mtc fs d.body).length:=by omega
    have hgt:=List.getElem?_eq_getElem hi'
    have e:=(hact _ (List.getElem_mem hi') (k+1) (by omega)).1
    have hft:=List.length_filter_le act ((mtc fs d.body).take i)
    rw [List.length_take] at hft
    have t1:=ih (i+1) n (i+1) (by omega) (by omega) (by omega)
    have t2:=ih (i+1) n lo (by omega) (by omega) (by omega)
    rw [List.take_succ_eq_append_getElem hi',List.filter_append] at t1 t2
    unfold ia da at e
    rw [F84.L5.succ,ite'_t (lt_t hi'),zQ,ite'_t (zo hi'),zjd hgt,zh,show (C (k+21) 85 [.agg [.d (.list 3 a),.d (.list 2 (A1 fs))],.agg [.d (.list 2 (A1 d.body)),.d (.list 2 (A1 d.head)),.d (.bool d.egd),.d (.int .i64 d.l),.d (.int .i64 d.r)],.d (.list 1 (I1 (mtc fs d.body)[i]))])=bo (act (mtc fs d.body)[i]) from e,bB,zE hi' (m:=(mtc fs d.body).length) (by omega)]
    cases hv:act (mtc fs d.body)[i] with
    | true =>
     rw [ite'_t rfl,Int.toNat_natCast,ite'_t (Nat.ble_eq_true_of_le hlo),zQ,ite'_t (zY (by simp only [List.length_cons,List.length_nil];omega)),zf2]
     simpa [hv] using t1
    | false =>
     rw [ite'_f rfl]
     simpa [hv] using t2
  have L80:∀ (m i n:Nat),i+m=(mtc fs d.body).length→m < n→F117.L6 (k+21) (C (k+21)) n (i:Int) a (A1 fs) (A1 d.body) (A1 d.head) d.egd d.l d.r (LL (((mtc fs d.body).take i).filter act)) (LL (mtc fs d.body))=some [(false,[.row 27 1 (LL ((mtc fs d.body).filter act))])]:=by
   intro m
   induction m with
   | zero =>
    intro i n hm hn
    obtain ⟨n,rfl⟩:∃ j,n=j+1:=⟨n - 1,by omega⟩
    obtain rfl:i=(mtc fs d.body).length:=by omega
    rw [F117.L6.succ,zQ,ite'_f (lt_f (by omega)),List.take_length]
   | succ m ih =>
    intro i n hm hn
    obtain ⟨n,rfl⟩:∃ j,n=j+1:=⟨n - 1,by omega⟩
    have hi':i < (mtc fs d.body).length:=by omega
    have hgt:=List.getElem?_eq_getElem hi'
    have e:=(hact _ (List.getElem_mem hi') (k+1) (by omega)).2
    have hft:=List.length_filter_le act ((mtc fs d.body).take i)
    rw [List.length_take] at hft
    have:=ih (i+1) n (by omega) (by omega)
    rw [List.take_succ_eq_append_getElem hi',List.filter_append] at this
    unfold ia da at e
    rw [F117.L6.succ,zQ,ite'_t (lt_t hi'),ite'_t (zo hi'),zjd hgt,zh,show (C (k+21) 118 [.agg [.d (.list 3 a),.d (.list 2 (A1 fs))],.agg [.d (.list 2 (A1 d.body)),.d (.list 2 (A1 d.head)),.d (.bool d.egd),.d (.int .i64 d.l),.d (.int .i64 d.r)],.d (.list 1 (I1 (mtc fs d.body)[i]))])=bo (act (mtc fs d.body)[i]) from e,bB,zE hi' (m:=(mtc fs d.body).length) (by omega)]
    cases hv:act (mtc fs d.body)[i] with
    | true =>
     rw [ite'_t rfl,ite'_t (zo hi'),zh,zQ,ite'_t (zY (by simp only [List.length_cons,List.length_nil];omega)),zf2]
     simpa [hv] using this
    | false =>
     rw [ite'_f rfl]
     simpa [hv] using this
  obtain ⟨hd1,hd2⟩:=hd.2 (k+9) (by omega)
  have e1:=c142 (k:=k+5) hq (by omega)
  have e2:=c167 (k:=k+4) hq (by omega)
  unfold ia da at *
  constructor
  ·rw [F84.run,hd1,bB,ite'_nt,e1,zoQ,zQ]
   exact L100 (mtc fs d.body).length 0 (k+21) 0 (by omega) (by omega) (by omega)
  ·rw [F117.run,hd2,bB,ite'_nt,e2,zpX]
   exact L80 (mtc fs d.body).length 0 (k+21) (by omega) (by omega)
theorem acts {a:Ovi.Rows} {fs:List Atom} {ib:Bool} {d:Dep} (hg:Gd a fs) (hi:InstY a fs ib) (hd:DepY a d) (hz:Dsz d) :
  ∃ L:BL,L.length≤27000∧(∀ x∈L,x.length=5∧∀ v∈x,inI v)∧∀ k,3000000≤k→C (k+22) 84 [ia a fs,da d]=some [(false,[.frow 27 1 1 (LL L)])]∧C (k+22) 117 [ia a fs,da d]=some [(false,[.row 27 1 (LL L)])]:=by
 cases ib with
 | true=>exact zpc hg hi hd hz
 | false =>
  refine ⟨[],by simp,by simp,fun k hk=>?_⟩
  have hD:=hd.1
  have hq:Qok a fs d.body (fun _=>true) false:=hi.qok hz.1 hD.b1 (by have:=hD.b2;omega) hD.bV hD.bv
  obtain ⟨hd1,hd2⟩:=hd.2 (k+9) (by omega)
  have e1:=c142 (k:=k+5) hq (by omega)
  have e2:=c167 (k:=k+4) hq (by omega)
  have hn:∀ (f:Ovi.Rows→Option Res),(zb (mtr false fs d.body) fun r=>zc (resO 27 1 1 false 1 r 0 0) f)=f []:=fun _=>rfl
  have hnF:∀ (f:Ovi.Rows→Option Res),(zb (mtrF false fs d.body) fun r=>zc (resF 27 1 1 1 false 1 r 0 0) f)=f []:=fun _=>rfl
  obtain ⟨n,hnk⟩:∃ n,k+21=n+1:=⟨k+20,rfl⟩
  unfold ia da at *
  constructor
  ·rw [F84.run,hd1,bB,ite'_nt,e1,hnF,hnk,F84.L5.succ,ite'_f (by decide)]
   rfl
  ·rw [F117.run,hd2,bB,ite'_nt,e2,hn,hnk,F117.L6.succ,ite'_f (by decide)]
   rfl
theorem push (Lp:Nat→Int→Ovi.Rows→Option Res) (fin:Ovi.Rows→Option Res) (L:BL) (i:Int)
  (hstep:∀ (n j:Nat) (acc:List Atom) b,L[j]? = some b→acc.length≤1000000→Lp (n+1) (j:Int) (A1 acc)=Lp n ((j+1:Nat):Int) (A1 (acc++[(i,b)])))
  (hend:∀ (n:Nat) (acc:List Atom),Lp (n+1) (L.length:Int) (A1 acc)=fin (A1 acc)) :
  ∀ (m j n:Nat) (acc:List Atom),j+m=L.length→m < n→acc.length+m≤1000000→Lp n (j:Int) (A1 acc)=fin (A1 (acc++(L.drop j).map fun b=>(i,b))):=by
 intro m
 induction m with
 | zero =>
  intro j n acc hm hn ha
  obtain ⟨n,rfl⟩:∃ p,n=p+1:=⟨n - 1,by omega⟩
  obtain rfl:j=L.length:=by omega
  rw [hend,List.drop_length,List.map_nil,List.append_nil]
 | succ m ih =>
  intro j n acc hm hn ha
  obtain ⟨n,rfl⟩:∃ p,n=p+1:=⟨n - 1,by omega⟩
  have hj:j < L.length:=by omega
  rw [hstep n j acc L[j] (List.getElem?_eq_getElem hj) (by omega),ih (j+1) n _ (by omega) (by omega) (by simp only [List.length_append,List.length_cons,List.length_nil];omega),List.drop_eq_getElem_cons hj]
  simp only [List.append_assoc,List.singleton_append,List.map_cons]
theorem zpY (Lp:Nat→Int→Nat→Ovi.Rows→Option Res) (fin:Ovi.Rows→Option Res) (L:BL) (i:Int)
  (hstep:∀ (n j lo:Nat) (acc:List Atom) b,lo≤j→L[j]? = some b→acc.length≤1000000→Lp (n+1) (j:Int) lo (A1 acc)=Lp n ((j+1:Nat):Int) (j+1) (A1 (acc++[(i,b)])))
  (hend:∀ (n lo:Nat) (acc:List Atom),Lp (n+1) (L.length:Int) lo (A1 acc)=fin (A1 acc)) :
  ∀ (m j n lo:Nat) (acc:List Atom),lo≤j→j+m=L.length→m < n→acc.length+m≤1000000→Lp n (j:Int) lo (A1 acc)=fin (A1 (acc++(L.drop j).map fun b=>(i,b))):=by
 intro m
 induction m with
 | zero =>
  intro j n lo acc hlo hm hn ha
  obtain ⟨n,rfl⟩:∃ p,n=p+1:=⟨n - 1,by omega⟩
  obtain rfl:j=L.length:=by omega
  rw [hend,List.drop_length,List.map_nil,List.append_nil]
 | succ m ih =>
  intro j n lo acc hlo hm hn ha
  obtain ⟨n,rfl⟩:∃ p,n=p+1:=⟨n - 1,by omega⟩
  have hj:j < L.length:=by omega
  rw [hstep n j lo acc L[j] hlo (List.getElem?_eq_getElem hj) (by omega),ih (j+1) n (j+1) _ (by omega) (by omega) (by omega) (by simp only [List.length_append,List.length_cons,List.length_nil];omega),List.drop_eq_getElem_cons hj]
  simp only [List.append_assoc,List.singleton_append,List.map_cons]
theorem zlu (i:Int) (b:List Int):[[D.int .i64 i,D.list 1 (I1 b)]]=A1 [(i,b)]:=rfl
theorem A1_app' (xs ys:List Atom):A1 xs++A1 ys=A1 (xs++ys):=by simp [A1]
def Tn (Lg:Nat→BL) (i:Nat):List Atom:=(List.range i).flatMap fun j=>(Lg j).map fun b=>((j:Int),b)
theorem zia (Lg:Nat→BL) (i:Nat):Tn Lg (i+1)=Tn Lg i++(Lg i).map fun b=>((i:Int),b):=by
 unfold Tn
 rw [List.range_succ,List.flatMap_append]
 simp
theorem allT {a:Ovi.Rows} {fs:List Atom} {ib:Bool} (hg:Gd a fs) (hi:InstY a fs ib) (ds:List Dep) (hd:∀ d∈ds,DepY a d) (hz:∀ d∈ds,Dsz d) (hl:ds.length≤5) :
  ∃ T:List Atom,T.length≤135000∧(∀ x∈T,(0≤x.1∧x.1 < (ds.length:Int))∧x.2.length=5∧∀ v∈x.2,inI v)∧∀ k,3000000≤k→C (k+24) 43 [ia a fs,.d (.list 5 (DD ds))]=some [(false,[.frow 83 2 1 (A1 T)])]∧C (k+24) 69 [ia a fs,.d (.list 5 (DD ds))]=some [(false,[.row 83 2 (A1 T)])]:=by
 have hmax:(1048576:Nat)≤maxLen:=by decide
 have:∀ i:Nat,∃ L:BL,L.length≤27000∧(∀ x∈L,x.length=5∧∀ v∈x,inI v)∧∀ d,ds[i]? = some d→∀ k,3000000≤k→C (k+22) 84 [ia a fs,da d]=some [(false,[.frow 27 1 1 (LL L)])]∧C (k+22) 117 [ia a fs,da d]=some [(false,[.row 27 1 (LL L)])]:=by
  intro i
  cases h:ds[i]? with
  | none=>exact ⟨[],by simp,by simp,fun d hd=>by cases hd⟩
  | some d =>
   have hm:=List.mem_of_getElem? h
   obtain ⟨L,h1,h2,h3⟩:=acts hg hi (hd d hm) (hz d hm)
   exact ⟨L,h1,h2,fun d' hd'=>by cases hd';exact h3⟩
 obtain ⟨Lg,hLg⟩:=Classical.axiomOfChoice this
 have hlen:∀ i,(Tn Lg i).length≤27000 * i:=by
  intro i
  induction i with
  | zero=>simp [Tn]
  | succ i ih =>
   rw [zia,List.length_append,List.length_map]
   have:=(hLg i).1
   omega
 refine ⟨Tn Lg ds.length,by have:=hlen ds.length;omega,fun x hx=>?_,fun k hk=>?_⟩
 ·unfold Tn at hx
  obtain ⟨j,hj,hx⟩:=List.mem_flatMap.1 hx
  obtain ⟨b,hb,rfl⟩:=List.mem_map.1 hx
  have hj:=List.mem_range.1 hj
  exact ⟨⟨by show (0:Int)≤(j:Int);omega,by show (j:Int) < _;omega⟩,(hLg j).2.1 b hb⟩
 ·have L251:∀ (m i n:Nat),i+m=ds.length→m < n→F43.L3 (k+23) (C (k+23)) n (DD ds) (ds.length:Int) (i:Int) a (A1 fs) (A1 (Tn Lg i))=some [(false,[.frow 83 2 1 (A1 (Tn Lg ds.length))])]:=by
   intro m
   induction m with
   | zero =>
    intro i n hm hn
    obtain ⟨n,rfl⟩:∃ j,n=j+1:=⟨n - 1,by omega⟩
    obtain rfl:i=ds.length:=by omega
    rw [F43.L3.succ,ite'_f (lt_f (by omega))]
   | succ m ih =>
    intro i n hm hn
    obtain ⟨n,rfl⟩:∃ j,n=j+1:=⟨n - 1,by omega⟩
    have hi':i < ds.length:=by omega
    have hgt:=List.getElem?_eq_getElem hi'
    obtain ⟨p1,p2,p3⟩:=hLg i
    have e:=(p3 _ hgt (k+1) (by omega)).1
    have hTl:=hlen i
    unfold ia da at e
    rw [F43.L3.succ,ite'_t (lt_t hi'),za0,ite'_t (zo hi'),DD_0 hgt,zh,DD_1 hgt,zh,DD_2 hgt,zu,DD_3 hgt,zd,DD_4 hgt,zd]
    rw [show C (k+23) 84 [.agg [.d (.list 3 a),.d (.list 2 (A1 fs))],.agg [.d (.list 2 (A1 ds[i].body)),.d (.list 2 (A1 ds[i].head)),.d (.bool ds[i].egd),.d (.int .i64 ds[i].l),.d (.int .i64 ds[i].r)]]=some [(false,[.frow 27 1 1 (LL (Lg i))])] from e]
    simp only [zl,zJ,zh]
    rw [zQ]
    have:=zpY (fun nn j lo acc=>F43.L6 (k+23) (C (k+23)) n nn (i:Int) (DD ds) (ds.length:Int) (i:Int) ((Lg i).length:Int) j a (A1 fs) acc (LL (Lg i)) lo) (fun acc=>F43.L3 (k+23) (C (k+23)) n (DD ds) (ds.length:Int) ((i+1:Nat):Int) a (A1 fs) acc) (Lg i) (i:Int)
     (fun nn j lo acc b hlo hb ha=>by
      have hj:=(List.getElem?_eq_some_iff.1 hb).1
      show F43.L6 _ _ _ (nn+1) _ _ _ _ _ _ _ _ _ _ _=_
      rw [F43.L6.succ,ite'_t (lt_t hj),zQ,ite'_t (zo hj),zjd hb,zh,Int.toNat_natCast,ite'_t (Nat.ble_eq_true_of_le hlo),ite'_t (zY (by simp only [zq,List.length_cons,List.length_nil];omega)),zlu,A1_app',zE hj (m:=(Lg i).length) (by omega)])
     (fun nn lo acc=>by
      show F43.L6 _ _ _ (nn+1) _ _ _ _ _ _ _ _ _ _ _=_
      rw [F43.L6.succ,ite'_f (lt_f (by omega)),zE hi' (m:=ds.length) (by omega)])
     (Lg i).length 0 (k+23) 0 (Tn Lg i) (by omega) (by omega) (by omega) (by omega)
    rw [List.drop_zero,← zia] at this
    rw [show ((0:Nat):Int)=0 from rfl] at this
    exact this.trans (ih (i+1) n (by omega) (by omega))
  have L249:∀ (m i n:Nat),i+m=ds.length→m < n→F69.L3 (k+23) (C (k+23)) n (DD ds) (i:Int) a (A1 fs) (A1 (Tn Lg i))=some [(false,[.row 83 2 (A1 (Tn Lg ds.length))])]:=by
   intro m
   induction m with
   | zero =>
    intro i n hm hn
    obtain ⟨n,rfl⟩:∃ j,n=j+1:=⟨n - 1,by omega⟩
    obtain rfl:i=ds.length:=by omega
    rw [F69.L3.succ,za0,ite'_f (lt_f (by omega))]
   | succ m ih =>
    intro i n hm hn
    obtain ⟨n,rfl⟩:∃ j,n=j+1:=⟨n - 1,by omega⟩
    have hi':i < ds.length:=by omega
    have hgt:=List.getElem?_eq_getElem hi'
    obtain ⟨p1,p2,p3⟩:=hLg i
    have e:=(p3 _ hgt (k+1) (by omega)).2
    have hTl:=hlen i
    unfold ia da at e
    rw [F69.L3.succ,za0,ite'_t (lt_t hi'),ite'_t (zo hi'),DD_0 hgt,zh,DD_1 hgt,zh,DD_2 hgt,zu,DD_3 hgt,zd,DD_4 hgt,zd]
    rw [show C (k+23) 117 [.agg [.d (.list 3 a),.d (.list 2 (A1 fs))],.agg [.d (.list 2 (A1 ds[i].body)),.d (.list 2 (A1 ds[i].head)),.d (.bool ds[i].egd),.d (.int .i64 ds[i].l),.d (.int .i64 ds[i].r)]]=some [(false,[.row 27 1 (LL (Lg i))])] from e]
    simp only [zl,zy,zh]
    have:=push (fun nn j acc=>F69.L7 (k+23) (C (k+23)) n nn (DD ds) (i:Int) j a (A1 fs) acc (LL (Lg i))) (fun acc=>F69.L3 (k+23) (C (k+23)) n (DD ds) ((i+1:Nat):Int) a (A1 fs) acc) (Lg i) (i:Int)
     (fun nn j acc b hb ha=>by
      have hj:=(List.getElem?_eq_some_iff.1 hb).1
      show F69.L7 _ _ _ (nn+1) _ _ _ _ _ _ _=_
      rw [F69.L7.succ,zQ,ite'_t (lt_t hj),ite'_t (zo hj),zjd hb,zh,ite'_t (zY (by simp only [zq,List.length_cons,List.length_nil];omega)),zlu,A1_app',zE hj (m:=(Lg i).length) (by omega)])
     (fun nn acc=>by
      show F69.L7 _ _ _ (nn+1) _ _ _ _ _ _ _=_
      rw [F69.L7.succ,zQ,ite'_f (lt_f (by omega)),zE hi' (m:=ds.length) (by omega)])
     (Lg i).length 0 (k+23) (Tn Lg i) (by omega) (by omega) (by omega)
    rw [List.drop_zero,← zia] at this
    rw [show ((0:Nat):Int)=0 from rfl] at this
    exact this.trans (ih (i+1) n (by omega) (by omega))
  unfold ia
  rw [F43.run,F69.run,za0]
  exact ⟨L251 ds.length 0 (k+23) (by omega) (by omega),L249 ds.length 0 (k+23) (by omega) (by omega)⟩
end Go.Proofs.YtiacahdabflcdaaGreat.Q
namespace Go.Proofs.YtiacahdabflcdaaGreat.Q
open Go Ovi
variable {k:Nat}
def ChP (r:Option Res) (a:Ovi.Rows) (o:Option (List Atom × Int × List Atom)):Prop:=∃ r',r=some r'∧match o with
 | some (gs,c,st)=>resL 3 2 true 4 r' 0 0=some a∧resL 2 2 true 4 r' 0 1=some (A1 gs)∧resI .i64 2 true 4 r' 0 2=some c∧resL 2 2 true 4 r' 0 3=some (A1 st)∧resB 2 false 1 r' 1 0=some true
 | none=>resL 3 2 true 4 r' 0 0=some []∧resL 2 2 true 4 r' 0 1=some []∧resI .i64 2 true 4 r' 0 2=some 0∧resL 2 2 true 4 r' 0 3=some []∧resB 2 false 1 r' 1 0=some false
theorem ChP.d {a:Ovi.Rows} {gs st:List Atom} {c:Int}:ChP (some [(true,[.d (.list 3 a),.d (.list 2 (A1 gs)),.d (.int .i64 c),.row 83 2 (A1 st)]),(false,[.d (.bool true)])]) a (some (gs,c,st)) :=
 ⟨_,rfl,by simp [resL,zaf,D.asL],by simp [resL,zaf,D.asL],by simp [resI,zaf,zz],rfl,rfl⟩
theorem ChP.n {a:Ovi.Rows}:ChP (some [(true,[.nil,.nil,.d (.int .i64 0),.nil]),(false,[.d (.bool false)])]) a none:=⟨_,rfl,rfl,rfl,rfl,rfl,rfl⟩
def chI (a:Ovi.Rows) (o:Option (List Atom × Int × List Atom)):Option Res:=match o with
 | some (gs,c,st)=>some [(true,[.frow 112 3 0 a,.frow 114 2 1 (A1 gs),.d (.int .i64 c),.frow 83 2 1 (A1 st)]),(false,[.d (.bool true)])]
 | none=>some [(true,[.nil,.nil,.d (.int .i64 0),.nil]),(false,[.d (.bool false)])]
def StOk (st:List Atom):Prop:=∀ x∈st,inI x.1∧x.2.length=5∧∀ v∈x.2,inI v
theorem zlF {a:Ovi.Rows} (ds:List Dep) (hdY:∀ d∈ds,DepY a d) (hz:∀ d∈ds,Dsz d) (hd5:ds.length≤5) (pk:Nat→Nat→Nat) (hpk:∀ i n,i < 60→0 < n→n≤135000→pk i n < n)
  (LI:Nat→Nat→Int→Int→Ovi.Rows→Ovi.Rows→Option Res) (LS:Nat→Nat→Int→Ovi.Rows→Ovi.Rows→Option Res)
  (h1:∀ k n gs st,LI k (n+1) 60 1 (A1 gs) (A1 st)=chI a (some (gs,3,st)))
  (h2:∀ k n gs st,ChP (LS k (n+1) 60 (A1 gs) (A1 st)) a (some (gs,3,st)))
  (h3:∀ k n (i:Nat) gs st,i < 60→C (k+24) 43 [ia a gs,.d (.list 5 (DD ds))]=some [(false,[.frow 83 2 1 []])]→LI k (n+1) (i:Int) 1 (A1 gs) (A1 st)=chI a (some (gs,1,st)))
  (h4:∀ k n (i:Nat) gs st,i < 60→C (k+24) 69 [ia a gs,.d (.list 5 (DD ds))]=some [(false,[.row 83 2 []])]→ChP (LS k (n+1) (i:Int) (A1 gs) (A1 st)) a (some (gs,1,st)))
  (h5:∀ k n (i q:Nat) gs st (T:List Atom) x d fs' c',i < 60→st.length≤i→0 < T.length→T.length≤135000→T[pk i T.length]? = some x→x.1=(q:Int)→ds[q]? = some d→C (k+24) 43 [ia a gs,.d (.list 5 (DD ds))]=some [(false,[.frow 83 2 1 (A1 T)])]→C (k+24) 44 [ia a gs,da d,.d (.list 1 (I1 x.2))]=pr a fs' c'→LI k (n+1) (i:Int) 1 (A1 gs) (A1 st)=LI k n ((i+1:Nat):Int) c' (A1 fs') (A1 (st++[x])))
  (h6:∀ k n (i q:Nat) gs st (T:List Atom) x d fs' c',i < 60→st.length≤i→0 < T.length→T.length≤135000→T[pk i T.length]? = some x→x.1=(q:Int)→ds[q]? = some d→C (k+24) 69 [ia a gs,.d (.list 5 (DD ds))]=some [(false,[.row 83 2 (A1 T)])]→Sp (C (k+24) 71 [ia a gs,da d,.d (.list 1 (I1 x.2))]) a fs' c'→LS k (n+1) (i:Int) (A1 gs) (A1 st)=ite' (c' != (1:Int)) (some [(true,[.d (.list 3 a),.d (.list 2 (A1 fs')),.d (.int .i64 c'),.row 83 2 (A1 (st++[x]))]),(false,[.d (.bool true)])]) (LS k n ((i+1:Nat):Int) (A1 fs') (A1 (st++[x]))))
  (h7:∀ k n (i:Int) gs st c,c≠1→LI k (n+1) i c (A1 gs) (A1 st)=chI a (some (gs,c,st))) :
  ∀ (m i:Nat) (gs st:List Atom),i+m=60→Gd a gs→st.length≤i→StOk st→∃ o,(∀ gs c st,o=some (gs,c,st)→Gd a gs∧st.length≤61∧StOk st)∧∀ k n,3000000≤k→m+1 < n→LI k n (i:Int) 1 (A1 gs) (A1 st)=chI a o∧ChP (LS k n (i:Int) (A1 gs) (A1 st)) a o:=by
 intro m
 induction m with
 | zero =>
  intro i gs st hm hgs hst hok
  refine ⟨some (gs,3,st),fun gs' c' st' h=>(by cases h;exact ⟨hgs,by omega,hok⟩),fun k n hk hn=>?_⟩
  obtain ⟨n,rfl⟩:∃ j,n=j+1:=⟨n - 1,by omega⟩
  obtain rfl:i=60:=by omega
  exact ⟨h1 k n gs st,h2 k n gs st⟩
 | succ m ih =>
  intro i gs st hm hgs hst hok
  have hi60:i < 60:=by omega
  obtain ⟨ib',hi2,hv2⟩:=hgs.inst
  obtain ⟨T,hT1,hT2,hT⟩:=allT hgs hi2 ds hdY hz hd5
  by_cases hT0:T=[]
  ·subst hT0
   refine ⟨some (gs,1,st),fun gs' c' st' h=>(by cases h;exact ⟨hgs,by omega,hok⟩),fun k n hk hn=>?_⟩
   obtain ⟨n,rfl⟩:∃ j,n=j+1:=⟨n - 1,by omega⟩
   obtain ⟨e1,e2⟩:=hT k hk
   exact ⟨h3 k n i gs st hi60 e1,h4 k n i gs st hi60 e2⟩
  ·have hTl:0 < T.length:=List.length_pos_iff.2 hT0
   have hp:=hpk i T.length hi60 hTl hT1
   obtain ⟨x,hx⟩:∃ x,T[pk i T.length]? = some x:=⟨_,List.getElem?_eq_getElem hp⟩
   obtain ⟨⟨hx0,hx1⟩,hx5,hxI⟩:=hT2 x (List.mem_of_getElem? hx)
   obtain ⟨q,hq⟩:∃ q:Nat,x.1=(q:Int):=⟨x.1.toNat,by omega⟩
   have hqd:q < ds.length:=by omega
   have hgd:=List.getElem?_eq_getElem hqd
   have hmd:=List.getElem_mem hqd
   obtain ⟨vb,fs',c',hvc,hg',hap⟩:=znW hgs hi2 hv2 (hdY _ hmd) (hz _ hmd) x.2 hxI (by omega)
   have s1:∀ k n,3000000≤k→LI k (n+1) (i:Int) 1 (A1 gs) (A1 st)=LI k n ((i+1:Nat):Int) c' (A1 fs') (A1 (st++[x])):=fun k n hk=>h5 k n i q gs st T x _ fs' c' hi60 hst hTl hT1 hx hq hgd (hT k hk).1 (hap (k+3) (by omega)).2.1
   have s2:=fun k n (hk:3000000≤k)=>h6 k n i q gs st T x _ fs' c' hi60 hst hTl hT1 hx hq hgd (hT k hk).2 (hap (k+3) (by omega)).2.2
   have hst':(st++[x]).length≤i+1:=by simp only [List.length_append,List.length_cons,List.length_nil];omega
   have hok':StOk (st++[x]):=fun y hy=>by
    rcases List.mem_append.1 hy with hy | hy
    ·exact hok y hy
    ·obtain rfl:=List.mem_singleton.1 hy
     exact ⟨by unfold inI;omega,hx5,hxI⟩
   by_cases hc:c'=1
   ·subst hc
    obtain ⟨o,ho1,ho⟩:=ih (i+1) fs' (st++[x]) (by omega) hg' hst' hok'
    refine ⟨o,ho1,fun k n hk hn=>?_⟩
    obtain ⟨n,rfl⟩:∃ j,n=j+1:=⟨n - 1,by omega⟩
    rw [s1 k n hk,s2 k n hk,ite'_f (by decide)]
    exact ho k n hk (by omega)
   ·refine ⟨some (fs',c',st++[x]),fun gs' c st' h=>(by cases h;exact ⟨hg',by omega,hok'⟩),fun k n hk hn=>?_⟩
    obtain ⟨n,rfl⟩:∃ j,n=j+1:=⟨n - 1,by omega⟩
    obtain ⟨n',hn'⟩:∃ j,n=j+1:=⟨n - 1,by omega⟩
    rw [s1 k n hk,s2 k n hk,ite'_t (by simpa using hc),hn',h7 k n' _ fs' _ c' hc]
    exact ⟨rfl,ChP.d⟩
end Go.Proofs.YtiacahdabflcdaaGreat.Q
namespace Go.Proofs.YtiacahdabflcdaaGreat.Q
open Go Ovi
variable {k:Nat}
theorem SpB {r:Option Res} {a:Ovi.Rows} {fs:List Atom} {c:Int} {f:Ovi.Rows→Ovi.Rows→Int→Option Res} (h:Sp r a fs c):(zb r fun r=>zc (resL 3 2 true 2 r 0 0) fun l=>zc (resL 2 2 true 2 r 0 1) fun m=>zg (resI .i64 2 false 1 r 1 0) fun n=>f l m n)=f a (A1 fs) c:=by
 obtain ⟨r',rfl,h1,h2,h3⟩:=h
 rw [zl,h1,zh,h2,zh,h3,zd]
def pkI (ps:List Int) (i n:Nat):Nat:=if ps=[] then 0 else (((ps.getD (i % ps.length) 0).tmod n+n).tmod n).toNat
theorem zj6 (ps:List Int) (i n:Nat) (_:i < 60) (h:0 < n) (_:n≤135000):pkI ps i n < n:=by
 unfold pkI
 split
 ·exact h
 ·have h1:∀ z:Int,0≤z.tmod n+n:=fun z=>by
   have:=Int.lt_tmod_of_pos z (show (0:Int) < n by omega)
   omega
  rw [Int.tmod_eq_emod_of_nonneg (h1 _)]
  have h2:=Int.emod_lt_of_pos ((ps.getD (i % ps.length) 0).tmod n+n) (show (0:Int) < n by omega)
  have h3:=Int.emod_nonneg ((ps.getD (i % ps.length) 0).tmod n+n) (show (n:Int)≠0 by omega)
  omega
theorem zl0 {ps:List Int} (hp:ps≠[]) (_:ps.length≤1048576) (i n:Nat) (h:0 < n) (hn:n≤135000):∃ z,((i:Int).tmod (ps.length:Int))=((i % ps.length:Nat):Int)∧ps[i % ps.length]? = some z∧(IntKind.i64.wrap (z.tmod (n:Int)+(n:Int))).tmod (n:Int)=((pkI ps i n:Nat):Int):=by
 have hl:=List.length_pos_iff.2 hp
 refine ⟨ps.getD (i % ps.length) 0,?_,?_,?_⟩
 ·rw [Int.tmod_eq_emod_of_nonneg (by omega)]
  exact (Int.natCast_emod _ _).symm
 ·rw [List.getD_eq_getElem?_getD,List.getElem?_eq_getElem (Nat.mod_lt _ hl)]
  rfl
 ·have h1:=Int.lt_tmod_of_pos (ps.getD (i % ps.length) 0) (show (0:Int) < n by omega)
  have h2:=Int.tmod_lt_of_pos (ps.getD (i % ps.length) 0) (show (0:Int) < n by omega)
  unfold pkI
  rw [if_neg hp,zac (by omega) (by omega)]
  have h3:0≤((ps.getD (i % ps.length) 0).tmod n+n).tmod n:=by
   rw [Int.tmod_eq_emod_of_nonneg (by omega)]
   exact Int.emod_nonneg _ (by omega)
  omega
theorem znq {a:Ovi.Rows} {fs:List Atom} (hg:Gd a fs) (ds:List Dep) (hz:∀ d∈ds,Dsz d) (hl:ds.length≤1048576) :
  ∃ o,(∀ gs c st,o=some (gs,c,st)→Gd a gs∧st.length≤61∧StOk st)∧∀ k,3000000≤k→C (k+25) 12 [ia a fs,.d (.list 5 (DD ds)),.d (.list 0 [])]=chI a o∧ChP (C (k+25) 36 [ia a fs,.d (.list 5 (DD ds)),.d (.list 0 [])]) a o:=by
 have hmax:(1048576:Nat)≤maxLen:=by decide
 obtain ⟨ib,hi,_⟩:=hg.inst
 obtain ⟨db,hdb,hdk⟩:=deps hg.fit hg.hal ds hz hl
 have hok:=hi.ok
 have hok1:∀ k,2000000≤k→C (k+8) 40 [.agg [.d (.list 3 a),.d (.list 2 (A1 fs))]]=bo ib∧C (k+8) 58 [.agg [.d (.list 3 a),.d (.list 2 (A1 fs))]]=bo ib:=hok
 have hs:=hg.hs
 unfold ia
 by_cases hboth:ib=true∧db=true
 ·obtain ⟨rfl,rfl⟩:=hboth
  obtain ⟨hd5,hdY⟩:=hdb rfl
  obtain ⟨o,ho1,ho⟩:=zlF (a:=a) ds hdY hz hd5 (fun _ _=>0) (fun _ _ _ h _=>h)
   (fun k n i c G S=>F9012.L5 (k+24) (C (k+24)) n (DD ds) [] i 0 [] [] [] c a G S)
   (fun k n i G S=>F9036.L5 (k+24) (C (k+24)) n (DD ds) [] i 0 [] [] [] a G 0 S)
   (fun k n gs st=>by
    show F9012.L5 (k+24) (C (k+24)) (n+1) (DD ds) [] 60 0 [] [] [] 1 a (A1 gs) (A1 st)=_
    rw [F9012.L5.succ,ite'_t (by decide),ite'_t (by decide)]
    rfl)
   (fun k n gs st=>by
    show ChP (F9036.L5 (k+24) (C (k+24)) (n+1) (DD ds) [] 60 0 [] [] [] a (A1 gs) 0 (A1 st)) _ _
    rw [F9036.L5.succ,ite'_f (by decide)]
    exact ChP.d)
   (fun k n i gs st hi e1=>by
    show F9012.L5 (k+24) (C (k+24)) (n+1) (DD ds) [] (i:Int) 0 [] [] [] 1 a (A1 gs) (A1 st)=_
    unfold ia at e1
    rw [F9012.L5.succ,ite'_t (by decide),ite'_f (by simp;omega),e1]
    simp only [zl,zJ,zh]
    rw [ite'_t (show depR 1 []=true from rfl),ite'_t (show ((([]:List (List D)).length:Int)==0)=true from rfl)]
    rfl)
   (fun k n i gs st hi e2=>by
    show ChP (F9036.L5 (k+24) (C (k+24)) (n+1) (DD ds) [] (i:Int) 0 [] [] [] a (A1 gs) 0 (A1 st)) _ _
    unfold ia at e2
    rw [F9036.L5.succ,ite'_t (decide_eq_true (show (i:Int) < 60 by omega)),e2]
    simp only [zl,zy,zh]
    rw [ite'_t (show ((([]:List (List D)).length:Int)==0)=true from rfl)]
    exact ChP.d)
   (fun k n i q gs st T x d fs' c' hi hst hT0 hT1 hx hq hd e1 e3=>by
    show F9012.L5 (k+24) (C (k+24)) (n+1) (DD ds) [] (i:Int) 0 [] [] [] 1 a (A1 gs) (A1 st)=F9012.L5 (k+24) (C (k+24)) n (DD ds) [] ((i+1:Nat):Int) 0 [] [] [] c' a (A1 fs') (A1 (st++[x]))
    have hnx:IntKind.i64.wrap ((i:Int)+1)=((i+1:Nat):Int):=zE (show i < 60 by omega) (m:=60) (by omega)
    have hne:(((A1 T).length:Int)==0)=false:=by rw [zq];exact beq_eq_false_iff_ne.2 (by omega)
    have hqd:q < ds.length:=(List.getElem?_eq_some_iff.1 hd).1
    have hfit:fits (List.length (A1 st)+[[D.int IntKind.i64 (q:Int),D.list 1 (I1 x.2)]].length)=true:=zY (by simp only [zq,List.length_cons,List.length_nil];omega)
    have hsn:A1 st++[[D.int IntKind.i64 (q:Int),D.list 1 (I1 x.2)]]=A1 (st++[x]):=by rw [← hq];simp [A1]
    have hc0:zm .i64 (A1 T) 0 0=some (q:Int):=by rw [← hq];exact zaU (i:=0) hx
    have hc1:zw 1 (A1 T) 0 1=some (I1 x.2):=zaV (i:=0) hx
    have hin:inR (0:Int) (List.length (A1 T))=true:=by rw [zq];exact zo (i:=0) hT0
    unfold ia da at *
    rw [F9012.L5.succ,ite'_t (by decide),ite'_f (by simp;omega),e1]
    simp only [zl,zJ,zh]
    rw [ite'_t (zaQ T),ite'_f hne]
    rw [ite'_f (show decide ((([]:List (List D)).length:Int) > (0:Int))=false from rfl),ite'_t hin,hc0,zd,hc1,zh,za0,ite'_t (zo hqd),DD_0 hd,zh,DD_1 hd,zh,DD_2 hd,zu,DD_3 hd,zd,DD_4 hd,zd]
    rw [show (C (k+24) 44 [.agg [.d (.list 3 a),.d (.list 2 (A1 gs))],.agg [.d (.list 2 (A1 d.body)),.d (.list 2 (A1 d.head)),.d (.bool d.egd),.d (.int .i64 d.l),.d (.int .i64 d.r)],.d (.list 1 (I1 x.2))])=pr a fs' c' from e3,prB,ite'_t hfit,hsn,hnx])
   (fun k n i q gs st T x d fs' c' hi hst hT0 hT1 hx hq hd e2 e4=>by
    show F9036.L5 (k+24) (C (k+24)) (n+1) (DD ds) [] (i:Int) 0 [] [] [] a (A1 gs) 0 (A1 st)=ite' (c' != (1:Int)) (some [(true,[.d (.list 3 a),.d (.list 2 (A1 fs')),.d (.int .i64 c'),.row 83 2 (A1 (st++[x]))]),(false,[.d (.bool true)])]) (F9036.L5 (k+24) (C (k+24)) n (DD ds) [] ((i+1:Nat):Int) 0 [] [] [] a (A1 fs') 0 (A1 (st++[x])))
    have hnx:IntKind.i64.wrap ((i:Int)+1)=((i+1:Nat):Int):=zE (show i < 60 by omega) (m:=60) (by omega)
    have hne:(((A1 T).length:Int)==0)=false:=by rw [zq];exact beq_eq_false_iff_ne.2 (by omega)
    have hqd:q < ds.length:=(List.getElem?_eq_some_iff.1 hd).1
    have hfit:fits (List.length (A1 st)+[[D.int IntKind.i64 (q:Int),D.list 1 (I1 x.2)]].length)=true:=zY (by simp only [zq,List.length_cons,List.length_nil];omega)
    have hsn:A1 st++[[D.int IntKind.i64 (q:Int),D.list 1 (I1 x.2)]]=A1 (st++[x]):=by rw [← hq];simp [A1]
    have hc0:zm .i64 (A1 T) 0 0=some (q:Int):=by rw [← hq];exact zaU (i:=0) hx
    have hc1:zw 1 (A1 T) 0 1=some (I1 x.2):=zaV (i:=0) hx
    have hin:inR (0:Int) (List.length (A1 T))=true:=by rw [zq];exact zo (i:=0) hT0
    unfold ia da at *
    rw [F9036.L5.succ,ite'_t (decide_eq_true (show (i:Int) < 60 by omega)),e2]
    simp only [zl,zy,zh]
    rw [ite'_f hne]
    rw [ite'_f (show decide ((([]:List (List D)).length:Int) > (0:Int))=false from rfl),ite'_t hin,hc0,zd,za0,ite'_t (zo hqd),DD_0 hd,zh,DD_1 hd,zh,DD_2 hd,zu,DD_3 hd,zd,DD_4 hd,zd,ite'_t hin,hc1,zh]
    rw [SpB (r:=(C (k+24) 71 [.agg [.d (.list 3 a),.d (.list 2 (A1 gs))],.agg [.d (.list 2 (A1 d.body)),.d (.list 2 (A1 d.head)),.d (.bool d.egd),.d (.int .i64 d.l),.d (.int .i64 d.r)],.d (.list 1 (I1 x.2))])) e4,ite'_t hin,zd,zh,ite'_t hfit,hsn,hnx])
   (fun k n i gs st c hc=>by
    show F9012.L5 (k+24) (C (k+24)) (n+1) (DD ds) [] i 0 [] [] [] c a (A1 gs) (A1 st)=_
    rw [F9012.L5.succ,ite'_f (by simpa using hc)]
    rfl)
   60 0 fs [] (by omega) hg (by simp) (fun x hx=>by simp at hx)
  refine ⟨o,ho1,fun k hk=>?_⟩
  obtain ⟨g1,g2⟩:=ho k (k+24) hk (by omega)
  rw [F9012.run,F9036.run,(hok1 (k+16) (by omega)).1,(hok1 (k+16) (by omega)).2,bB,bB,ite'_nt,ite'_nt,(hdk (k+8) (by omega)).1,(hdk (k+8) (by omega)).2,bB,bB,ite'_nt,ite'_nt,c42 (k:=k+20) hg.hal fs hg.fx (by omega) (by omega),c68 (k:=k+21) hg.hal fs hg.fx (by omega) (by omega),c42x,c42x]
  exact ⟨g1,g2⟩
 ·refine ⟨none,fun gs c st h=>(nomatch h),fun k hk=>?_⟩
  have h1:=hok1 (k+16) (by omega)
  have h2:=hdk (k+8) (by omega)
  rw [F9012.run,F9036.run,h1.1,h1.2,bB,bB]
  cases ib with
  | false=>exact ⟨rfl,ChP.n⟩
  | true =>
   rw [ite'_nt,ite'_nt,h2.1,h2.2,bB,bB]
   cases db with
   | false=>exact ⟨rfl,ChP.n⟩
   | true=>exact absurd ⟨rfl,rfl⟩ hboth
theorem znp {a:Ovi.Rows} {fs:List Atom} (hg:Gd a fs) (ds:List Dep) (hz:∀ d∈ds,Dsz d) (hl:ds.length≤1048576) (ps:List Int) (hps:ps.length≤1048576) :
  ∃ o,(∀ gs c st,o=some (gs,c,st)→Gd a gs∧st.length≤61∧StOk st)∧∀ k,3000000≤k→C (k+25) 12 [ia a fs,.d (.list 5 (DD ds)),.d (.list 1 (I1 ps))]=chI a o∧ChP (C (k+25) 36 [ia a fs,.d (.list 5 (DD ds)),.d (.list 1 (I1 ps))]) a o:=by
 have hmax:(1048576:Nat)≤maxLen:=by decide
 obtain ⟨ib,hi,_⟩:=hg.inst
 obtain ⟨db,hdb,hdk⟩:=deps hg.fit hg.hal ds hz hl
 have hok:=hi.ok
 have hok1:∀ k,2000000≤k→C (k+8) 40 [.agg [.d (.list 3 a),.d (.list 2 (A1 fs))]]=bo ib∧C (k+8) 58 [.agg [.d (.list 3 a),.d (.list 2 (A1 fs))]]=bo ib:=hok
 have hs:=hg.hs
 unfold ia
 by_cases hboth:ib=true∧db=true
 ·obtain ⟨rfl,rfl⟩:=hboth
  obtain ⟨hd5,hdY⟩:=hdb rfl
  obtain ⟨o,ho1,ho⟩:=zlF (a:=a) ds hdY hz hd5 (pkI ps) (zj6 ps)
   (fun k n i c G S=>F12.L5 (k+24) (C (k+24)) n (DD ds) (I1 ps) i 0 [] [] [] c a G S)
   (fun k n i G S=>F36.L5 (k+24) (C (k+24)) n (DD ds) (I1 ps) i 0 [] [] [] a G 0 S)
   (fun k n gs st=>by
    show F12.L5 (k+24) (C (k+24)) (n+1) (DD ds) (I1 ps) 60 0 [] [] [] 1 a (A1 gs) (A1 st)=_
    rw [F12.L5.succ,ite'_t (by decide),ite'_t (by decide)]
    rfl)
   (fun k n gs st=>by
    show ChP (F36.L5 (k+24) (C (k+24)) (n+1) (DD ds) (I1 ps) 60 0 [] [] [] a (A1 gs) 0 (A1 st)) _ _
    rw [F36.L5.succ,ite'_f (by decide)]
    exact ChP.d)
   (fun k n i gs st hi e1=>by
    show F12.L5 (k+24) (C (k+24)) (n+1) (DD ds) (I1 ps) (i:Int) 0 [] [] [] 1 a (A1 gs) (A1 st)=_
    unfold ia at e1
    rw [F12.L5.succ,ite'_t (by decide),ite'_f (by simp;omega),e1]
    simp only [zl,zJ,zh]
    rw [ite'_t (show depR 1 []=true from rfl),ite'_t (show ((([]:List (List D)).length:Int)==0)=true from rfl)]
    rfl)
   (fun k n i gs st hi e2=>by
    show ChP (F36.L5 (k+24) (C (k+24)) (n+1) (DD ds) (I1 ps) (i:Int) 0 [] [] [] a (A1 gs) 0 (A1 st)) _ _
    unfold ia at e2
    rw [F36.L5.succ,ite'_t (decide_eq_true (show (i:Int) < 60 by omega)),e2]
    simp only [zl,zy,zh]
    rw [ite'_t (show ((([]:List (List D)).length:Int)==0)=true from rfl)]
    exact ChP.d)
   (fun k n i q gs st T x d fs' c' hi hst hT0 hT1 hx hq hd e1 e3=>by
    show F12.L5 (k+24) (C (k+24)) (n+1) (DD ds) (I1 ps) (i:Int) 0 [] [] [] 1 a (A1 gs) (A1 st)=F12.L5 (k+24) (C (k+24)) n (DD ds) (I1 ps) ((i+1:Nat):Int) 0 [] [] [] c' a (A1 fs') (A1 (st++[x]))
    have hnx:IntKind.i64.wrap ((i:Int)+1)=((i+1:Nat):Int):=zE (show i < 60 by omega) (m:=60) (by omega)
    have hne:(((A1 T).length:Int)==0)=false:=by rw [zq];exact beq_eq_false_iff_ne.2 (by omega)
    have hqd:q < ds.length:=(List.getElem?_eq_some_iff.1 hd).1
    have hfit:fits (List.length (A1 st)+[[D.int IntKind.i64 (q:Int),D.list 1 (I1 x.2)]].length)=true:=zY (by simp only [zq,List.length_cons,List.length_nil];omega)
    have hsn:A1 st++[[D.int IntKind.i64 (q:Int),D.list 1 (I1 x.2)]]=A1 (st++[x]):=by rw [← hq];simp [A1]
    have hpp:=zj6 ps i T.length hi hT0 hT1
    have hc0:zm .i64 (A1 T) ((pkI ps i T.length:Nat):Int).toNat 0=some (q:Int):=by rw [← hq];exact zaU hx
    have hc1:zw 1 (A1 T) ((pkI ps i T.length:Nat):Int).toNat 1=some (I1 x.2):=zaV hx
    have hin:inR ((pkI ps i T.length:Nat):Int) (List.length (A1 T))=true:=by rw [zq];exact zo hpp
    unfold ia da at *
    rw [F12.L5.succ,ite'_t (by decide),ite'_f (by simp;omega),e1]
    simp only [zl,zJ,zh]
    rw [ite'_t (zaQ T),ite'_f hne]
    by_cases hp0:ps=[]
    ·subst hp0
     have h0:pkI [] i T.length=0:=rfl
     rw [h0] at hc0 hc1 hin
     have hc0:zm .i64 (A1 T) 0 0=some (q:Int):=hc0
     have hc1:zw 1 (A1 T) 0 1=some (I1 x.2):=hc1
     have hin:inR (0:Int) (List.length (A1 T))=true:=hin
     rw [ite'_f (show decide (((I1 []).length:Int) > (0:Int))=false from rfl),ite'_t hin,hc0,zd,hc1,zh,za0,ite'_t (zo hqd),DD_0 hd,zh,DD_1 hd,zh,DD_2 hd,zu,DD_3 hd,zd,DD_4 hd,zd]
     rw [show (C (k+24) 44 [.agg [.d (.list 3 a),.d (.list 2 (A1 gs))],.agg [.d (.list 2 (A1 d.body)),.d (.list 2 (A1 d.head)),.d (.bool d.egd),.d (.int .i64 d.l),.d (.int .i64 d.r)],.d (.list 1 (I1 x.2))])=pr a fs' c' from e3,prB,ite'_t hfit,hsn,hnx]
    ·obtain ⟨z,hz1,hz2,hz3⟩:=zl0 hp0 hps i T.length hT0 hT1
     rw [ite'_t (decide_eq_true (show ((I1 ps).length:Int) > 0 by rw [zn];have:=List.length_pos_iff.2 hp0;omega)),ite'_f (show (((I1 ps).length:Int)==0)=false by rw [zn];have:=List.length_pos_iff.2 hp0;exact beq_eq_false_iff_ne.2 (by omega)),zn,hz1,ite'_t (zo (Nat.mod_lt _ (List.length_pos_iff.2 hp0))),I1_c hz2,zd,ite'_f hne,ite'_f hne,zq,hz3]
     rw [zq] at hin
     rw [ite'_t hin,hc0,zd,hc1,zh,za0,ite'_t (zo hqd),DD_0 hd,zh,DD_1 hd,zh,DD_2 hd,zu,DD_3 hd,zd,DD_4 hd,zd]
     rw [show (C (k+24) 44 [.agg [.d (.list 3 a),.d (.list 2 (A1 gs))],.agg [.d (.list 2 (A1 d.body)),.d (.list 2 (A1 d.head)),.d (.bool d.egd),.d (.int .i64 d.l),.d (.int .i64 d.r)],.d (.list 1 (I1 x.2))])=pr a fs' c' from e3,prB,ite'_t (Nat.ble_eq_true_of_le (Nat.zero_le _)),ite'_t hfit,hsn,hnx])
   (fun k n i q gs st T x d fs' c' hi hst hT0 hT1 hx hq hd e2 e4=>by
    show F36.L5 (k+24) (C (k+24)) (n+1) (DD ds) (I1 ps) (i:Int) 0 [] [] [] a (A1 gs) 0 (A1 st)=ite' (c' != (1:Int)) (some [(true,[.d (.list 3 a),.d (.list 2 (A1 fs')),.d (.int .i64 c'),.row 83 2 (A1 (st++[x]))]),(false,[.d (.bool true)])]) (F36.L5 (k+24) (C (k+24)) n (DD ds) (I1 ps) ((i+1:Nat):Int) 0 [] [] [] a (A1 fs') 0 (A1 (st++[x])))
    have hnx:IntKind.i64.wrap ((i:Int)+1)=((i+1:Nat):Int):=zE (show i < 60 by omega) (m:=60) (by omega)
    have hne:(((A1 T).length:Int)==0)=false:=by rw [zq];exact beq_eq_false_iff_ne.2 (by omega)
    have hqd:q < ds.length:=(List.getElem?_eq_some_iff.1 hd).1
    have hfit:fits (List.length (A1 st)+[[D.int IntKind.i64 (q:Int),D.list 1 (I1 x.2)]].length)=true:=zY (by simp only [zq,List.length_cons,List.length_nil];omega)
    have hsn:A1 st++[[D.int IntKind.i64 (q:Int),D.list 1 (I1 x.2)]]=A1 (st++[x]):=by rw [← hq];simp [A1]
    have hpp:=zj6 ps i T.length hi hT0 hT1
    have hc0:zm .i64 (A1 T) ((pkI ps i T.length:Nat):Int).toNat 0=some (q:Int):=by rw [← hq];exact zaU hx
    have hc1:zw 1 (A1 T) ((pkI ps i T.length:Nat):Int).toNat 1=some (I1 x.2):=zaV hx
    have hin:inR ((pkI ps i T.length:Nat):Int) (List.length (A1 T))=true:=by rw [zq];exact zo hpp
    unfold ia da at *
    rw [F36.L5.succ,ite'_t (decide_eq_true (show (i:Int) < 60 by omega)),e2]
    simp only [zl,zy,zh]
    rw [ite'_f hne]
    by_cases hp0:ps=[]
    ·subst hp0
     have h0:pkI [] i T.length=0:=rfl
     rw [h0] at hc0 hc1 hin
     have hc0:zm .i64 (A1 T) 0 0=some (q:Int):=hc0
     have hc1:zw 1 (A1 T) 0 1=some (I1 x.2):=hc1
     have hin:inR (0:Int) (List.length (A1 T))=true:=hin
     rw [ite'_f (show decide (((I1 []).length:Int) > (0:Int))=false from rfl),ite'_t hin,hc0,zd,za0,ite'_t (zo hqd),DD_0 hd,zh,DD_1 hd,zh,DD_2 hd,zu,DD_3 hd,zd,DD_4 hd,zd,ite'_t hin,hc1,zh]
     rw [SpB (r:=(C (k+24) 71 [.agg [.d (.list 3 a),.d (.list 2 (A1 gs))],.agg [.d (.list 2 (A1 d.body)),.d (.list 2 (A1 d.head)),.d (.bool d.egd),.d (.int .i64 d.l),.d (.int .i64 d.r)],.d (.list 1 (I1 x.2))])) e4,ite'_t hin,zd,zh,ite'_t hfit,hsn,hnx]
    ·obtain ⟨z,hz1,hz2,hz3⟩:=zl0 hp0 hps i T.length hT0 hT1
     rw [ite'_t (decide_eq_true (show ((I1 ps).length:Int) > 0 by rw [zn];have:=List.length_pos_iff.2 hp0;omega)),ite'_f (show (((I1 ps).length:Int)==0)=false by rw [zn];have:=List.length_pos_iff.2 hp0;exact beq_eq_false_iff_ne.2 (by omega)),zn,hz1,ite'_t (zo (Nat.mod_lt _ (List.length_pos_iff.2 hp0))),I1_c hz2,zd,zq]
     rw [zq] at hin
     have h70:C (k+24) 70 [.d (.int .i64 z),.d (.int .i64 (T.length:Int))]=some [(false,[.d (.int .i64 ((pkI ps i T.length:Nat):Int))])]:=by
      rw [F70.run,ite'_f (by rw [zq] at hne;exact hne),ite'_f (by rw [zq] at hne;exact hne),hz3]
     rw [h70,zl,zx,zd,ite'_t hin,hc0,zd,za0,ite'_t (zo hqd),DD_0 hd,zh,DD_1 hd,zh,DD_2 hd,zu,DD_3 hd,zd,DD_4 hd,zd,ite'_t hin,hc1,zh]
     rw [SpB (r:=(C (k+24) 71 [.agg [.d (.list 3 a),.d (.list 2 (A1 gs))],.agg [.d (.list 2 (A1 d.body)),.d (.list 2 (A1 d.head)),.d (.bool d.egd),.d (.int .i64 d.l),.d (.int .i64 d.r)],.d (.list 1 (I1 x.2))])) e4,ite'_t hin,zd,zh,ite'_t hfit,hsn,hnx])
   (fun k n i gs st c hc=>by
    show F12.L5 (k+24) (C (k+24)) (n+1) (DD ds) (I1 ps) i 0 [] [] [] c a (A1 gs) (A1 st)=_
    rw [F12.L5.succ,ite'_f (by simpa using hc)]
    rfl)
   60 0 fs [] (by omega) hg (by simp) (fun x hx=>by simp at hx)
  refine ⟨o,ho1,fun k hk=>?_⟩
  obtain ⟨g1,g2⟩:=ho k (k+24) hk (by omega)
  rw [F12.run,F36.run,(hok1 (k+16) (by omega)).1,(hok1 (k+16) (by omega)).2,bB,bB,ite'_nt,ite'_nt,(hdk (k+8) (by omega)).1,(hdk (k+8) (by omega)).2,bB,bB,ite'_nt,ite'_nt,c42 (k:=k+20) hg.hal fs hg.fx (by omega) (by omega),c68 (k:=k+21) hg.hal fs hg.fx (by omega) (by omega),c42x,c42x]
  exact ⟨g1,g2⟩
 ·refine ⟨none,fun gs c st h=>(nomatch h),fun k hk=>?_⟩
  have h1:=hok1 (k+16) (by omega)
  have h2:=hdk (k+8) (by omega)
  rw [F12.run,F36.run,h1.1,h1.2,bB,bB]
  cases ib with
  | false=>exact ⟨rfl,ChP.n⟩
  | true =>
   rw [ite'_nt,ite'_nt,h2.1,h2.2,bB,bB]
   cases db with
   | false=>exact ⟨rfl,ChP.n⟩
   | true=>exact absurd ⟨rfl,rfl⟩ hboth
end Go.Proofs.YtiacahdabflcdaaGreat.Q
namespace Go.Proofs.YtiacahdabflcdaaGreat.Q
open Go Ovi
set_option maxRecDepth 1000000
variable {k:Nat}
theorem ziw {xs:List Atom} (hl:xs.length≤maxLen) (h:∀ x∈xs,inI x.1∧x.2.length≤maxLen∧∀ z∈x.2,inI z):Fit (.list [.int .i64,.list [.int .i64]]) (.list 2 (A1 xs)):=by
 have wf:∀ z,inI z→(Lit.int IntKind.i64 z).wf=true:=fun z hz=>by
  unfold inI at hz
  simp only [Lit.wf,IntKind.min,IntKind.max,IntKind.signed,IntKind.bits,Bool.and_eq_true,decide_eq_true_eq]
  simpa using hz
 simp only [Fit]
 refine ⟨rfl,by rw [zq];exact hl,fun r hr=>?_⟩
 obtain ⟨x,hx,rfl⟩:=List.mem_map.1 hr
 obtain ⟨p1,p2,p3⟩:=h x hx
 simp only [Fits,Fit]
 refine ⟨⟨trivial,wf _ p1⟩,⟨rfl,by rw [zn];exact p2,fun r hr=>?_⟩,trivial⟩
 obtain ⟨z,hz,rfl⟩:=List.mem_map.1 hr
 simp only [Fits,Fit]
 exact ⟨⟨trivial,wf _ (p3 z hz)⟩,trivial⟩
theorem F9x {a b:Ovi.Rows}:resO 112 3 1 true 2 [(true,[.row 112 3 a,.frow 114 2 1 b])] 0 0=some a∧resF 114 2 1 1 true 2 [(true,[.row 112 3 a,.frow 114 2 1 b])] 0 1=some b:=⟨rfl,rfl⟩
theorem zmj:∀ st:List Atom,StOk st→zD st≤5 * st.length
 | [],_=>by simp [zD]
 | x::r,h=>by
  have h1:=zmj r fun y hy=>h y (List.mem_cons_of_mem _ hy)
  have h2:=(h x List.mem_cons_self).2.1
  simp only [zD,List.map_cons,List.sum_cons,List.length_cons] at h1 ⊢
  omega
theorem zlE {a:Ovi.Rows} (h1:Fit Rl (.list 3 a)) (z1:szD (.list 3 a)≤1048576) {o:Option (List Atom × Int × List Atom)} (ho:∀ gs c st,o=some (gs,c,st)→Gd a gs∧st.length≤61∧StOk st) {S:Option Res} (hS:ChP S a o) :
  ∃ (R1 R2:Res) (U:Ovi.Rows) (gs st:List Atom) (c:Int) (g:Bool),S=some R1∧chI a o=some R2∧Fit Rl (.list 3 U)∧Fit At (.list 2 (A1 gs))∧Fit At (.list 2 (A1 st))∧szD (.list 3 U)≤1048576∧szD (.list 2 (A1 gs))≤1048576∧szD (.list 2 (A1 st))≤1048576 ∧
   (resL 3 2 true 4 R1 0 0=some U∧resL 2 2 true 4 R1 0 1=some (A1 gs)∧resI .i64 2 true 4 R1 0 2=some c∧resL 2 2 true 4 R1 0 3=some (A1 st)∧resB 2 false 1 R1 1 0=some g) ∧
   resF 112 3 0 2 true 4 R2 0 0=some U∧resF 114 2 1 2 true 4 R2 0 1=some (A1 gs)∧resI .i64 2 true 4 R2 0 2=some c∧resF 83 2 1 2 true 4 R2 0 3=some (A1 st)∧resB 2 false 1 R2 1 0=some g:=by
 have hmax:(1048576:Nat)≤maxLen:=by decide
 obtain ⟨r',hr,hS⟩:=hS
 cases o with
 | none =>
  obtain ⟨q0,q1,q2,q3,q4⟩:=hS
  exact ⟨r',_,[],[],[],0,false,hr,rfl,by unfold Rl;simp [Fit],by unfold At;simp [Fit,A1],by unfold At;simp [Fit,A1],by simp [szD,szR],by simp [szD,szR,A1],by simp [szD,szR,A1],⟨q0,q1,q2,q3,q4⟩,rfl,rfl,by simp [resI,zaf,zz],rfl,rfl⟩
 | some p =>
  obtain ⟨gs,c,st⟩:=p
  obtain ⟨hg,hl,hst⟩:=ho gs c st rfl
  have hs:=hg.hs
  have h5:=zmj st hst
  refine ⟨r',_,a,gs,st,c,true,hr,rfl,h1,ziw (by omega) fun z hz=>⟨hg.hR z hz,?_,hg.hI z hz⟩,ziw (by omega) fun z hz=>⟨(hst z hz).1,by have:=(hst z hz).2.1;omega,(hst z hz).2.2⟩,z1,by rw [zbH];omega,by rw [zbH];omega,hS,rfl,rfl,by simp [resI,zaf,zz],rfl,rfl⟩
  have:=zah hz
  omega
theorem ChP.dd {a:Ovi.Rows} {gs st:List Atom} {c:Int}:ChP (some [(true,[.d (.list 3 a),.d (.list 2 (A1 gs)),.d (.int .i64 c),.d (.list 2 (A1 st))]),(false,[.d (.bool true)])]) a (some (gs,c,st)) :=
 ⟨_,rfl,by simp [resL,zaf,D.asL],by simp [resL,zaf,D.asL],by simp [resI,zaf,zz],by simp [resL,zaf,D.asL],rfl⟩
theorem ChP.dn {a:Ovi.Rows}:ChP (some [(true,[.d (.list 3 []),.d (.list 2 []),.d (.int .i64 0),.d (.list 2 [])]),(false,[.d (.bool false)])]) a none:=⟨_,rfl,rfl,rfl,by simp [resI,zaf,zz],rfl,rfl⟩
theorem ChP.bind {r:Option Res} {a:Ovi.Rows} {o:Option (List Atom × Int × List Atom)} (h:ChP r a o):ChP (zb r fun r=>zc (resL 3 2 true 4 r 0 0) fun l6=>zc (resL 2 2 true 4 r 0 1) fun l7=>zg (resI .i64 2 true 4 r 0 2) fun n8=>zc (resL 2 2 true 4 r 0 3) fun l9=>zj (resB 2 false 1 r 1 0) fun b10=>some ([(true,[.d (.list 3 l6),.d (.list 2 l7),.d (.int .i64 n8),.d (.list 2 l9)]),(false,[.d (.bool b10)])])) a o:=by
 obtain ⟨r',rfl,h⟩:=h
 rw [zl]
 cases o with
 | none =>
  obtain ⟨q0,q1,q2,q3,q4⟩:=h
  rw [q0,q1,q2,q3,q4]
  exact ChP.dn
 | some p =>
  obtain ⟨gs,c,st⟩:=p
  obtain ⟨q0,q1,q2,q3,q4⟩:=h
  rw [q0,q1,q2,q3,q4]
  exact ChP.dd
def chJ (a:Ovi.Rows):Option (List Atom × Int × List Atom)→Option Res
 | some o=>chI a (some o)
 | none=>some [(true,[.frow 112 3 0 [],.frow 114 2 1 [],.d (.int .i64 0),.frow 83 2 1 []]),(false,[.d (.bool false)])]
theorem zno {a:Ovi.Rows} {o:Option (List Atom × Int × List Atom)} {R2:Res} (h:chI a o=some R2) {U:Ovi.Rows} {V W:Ovi.Rows} {c:Int} {g:Bool}
  (hu:resF 112 3 0 2 true 4 R2 0 0=some U∧resF 114 2 1 2 true 4 R2 0 1=some V∧resI .i64 2 true 4 R2 0 2=some c∧resF 83 2 1 2 true 4 R2 0 3=some W∧resB 2 false 1 R2 1 0=some g) :
  ∃ R3,chJ a o=some R3∧resF 112 3 0 2 true 4 R3 0 0=some U∧resF 114 2 1 2 true 4 R3 0 1=some V∧resI .i64 2 true 4 R3 0 2=some c∧resF 83 2 1 2 true 4 R3 0 3=some W∧resB 2 false 1 R3 1 0=some g:=by
 cases o with
 | none =>
  cases h
  obtain ⟨u0,u1,u2,u3,u4⟩:=hu
  exact ⟨_,rfl,u0,u1,u2,u3,u4⟩
 | some p=>exact ⟨R2,h,hu⟩
theorem znn {a:Ovi.Rows} (h1:Fit Rl (.list 3 a)) (o:Option (List Atom × Int × List Atom)):(zb (chI a o) fun r5=>zc (resF 112 3 0 2 true 4 r5 0 0) fun l6=>ite' (depR 0 l6) (zc (resF 114 2 1 2 true 4 r5 0 1) fun l7=>ite' (depR 1 l7) (zg (resI .i64 2 true 4 r5 0 2) fun n8=>zc (resF 83 2 1 2 true 4 r5 0 3) fun l9=>ite' (depR 1 l9) (zj (resB 2 false 1 r5 1 0) fun b10=>some ([(true,[.frow 112 3 0 l6,.frow 114 2 1 l7,.d (.int .i64 n8),.frow 83 2 1 l9]),(false,[.d (.bool b10)])])) none) none) none) =
  chJ a o:=by
 cases o with
 | none=>rfl
 | some p =>
  obtain ⟨gs,c,st⟩:=p
  show zb (some _) _=_
  rw [zl,show resF 112 3 0 2 true 4 [(true,[.frow 112 3 0 a,.frow 114 2 1 (A1 gs),.d (.int .i64 c),.frow 83 2 1 (A1 st)]),(false,[.d (.bool true)])] 0 0=some a from rfl,zh,ite'_t (zd8 h1),
   show resF 114 2 1 2 true 4 [(true,[.frow 112 3 0 a,.frow 114 2 1 (A1 gs),.d (.int .i64 c),.frow 83 2 1 (A1 st)]),(false,[.d (.bool true)])] 0 1=some (A1 gs) from rfl,zh,ite'_t (zaQ gs),
   show resI .i64 2 true 4 [(true,[.frow 112 3 0 a,.frow 114 2 1 (A1 gs),.d (.int .i64 c),.frow 83 2 1 (A1 st)]),(false,[.d (.bool true)])] 0 2=some c by simp [resI,zaf,zz],zd,
   show resF 83 2 1 2 true 4 [(true,[.frow 112 3 0 a,.frow 114 2 1 (A1 gs),.d (.int .i64 c),.frow 83 2 1 (A1 st)]),(false,[.d (.bool true)])] 0 3=some (A1 st) from rfl,zh,ite'_t (zaQ st)]
  rfl
end Go.Proofs.YtiacahdabflcdaaGreat.Q
namespace Go.Proofs
open Go Ovi Go.RowKit
theorem own_below' {w w':World} {B e size n:Nat} {v:Value} {xs:List Value} (h:w.ownsRow B e size v n xs) (hb:Below w.heap.size w w'):w'.ownsRow B e size v n xs:=by
 obtain ⟨h1,h2⟩:=h
 refine ⟨h1,?_⟩
 rcases h2 with h2 | ⟨g,cap,cur,k1,k2,k3,k4⟩
 ·exact .inl h2
 ·exact .inr ⟨g,cap,cur,k1,k2,(hb.block g (z6 k3)).trans k3,k4⟩
theorem zgJ {B:Nat} {w wr w':World} (hb:Below B w wr) (hB:B≤wr.heap.size) {row:Option Nat} (hr:∀ b,row=some b→B≤b) (hg:wr.grownBy w' row):Below B w w' :=
 hb.trans ⟨hg.os,hg.tape,hg.output,hg.size,fun k hk=>hg.block k (by omega) fun e=>by have:=hr k e.symm;omega⟩
theorem ziT {w:World} {B e size n:Nat} {v:Value} {xs:List Value} (h:w.ownsRow B e size v n xs):∀ b,v.ownBlock=some b→B≤b:=by
 intro b hb
 rcases h.2 with ⟨rfl,_⟩ | ⟨g,cap,cur,rfl,k2,_⟩
 ·cases hb
 ·cases hb;exact k2
theorem Tryz.info39:(Tryz.prog.info? 27).map (fun i=>(i.zero,i.size,i.bytes))=some (some (.slice none 0 0),1,24):=by kernel_rfl
end Go.Proofs
namespace Go.Proofs
open Go Ovi Go.RowKit
def ElOk (W:World) (h:Value) (x:List Int) (k:Nat):Prop:=∃ (c:Nat) (cur:Array Value),h=.slice (some ⟨k,0,none⟩) x.length c∧W.heap[k]? = some (.cells cur 3 (0,0))∧x.length≤c∧c≤maxLen∧cur.size=c∧∀ (j:Nat) (z:Int),x[j]? = some z→cur[j]? = some (Value.int .i64 z)
structure RowOk (W:World) (hds:List Value) (L:List (List Int)) (ks:List Nat):Prop where
 lh:hds.length=L.length
 lk:ks.length=L.length
 nd:ks.Nodup
 el:∀ (j:Nat) (h:Value) (x:List Int) (k:Nat),hds[j]? = some h→L[j]? = some x→ks[j]? = some k→ElOk W h x k
theorem ElOk.keep {W W':World} {h:Value} {x:List Int} {k:Nat} (he:ElOk W h x k) (hk:W'.heap[k]? = W.heap[k]?):ElOk W' h x k:=by
 obtain ⟨c,cur,h1,h2,h3⟩:=he
 exact ⟨c,cur,h1,hk.trans h2,h3⟩
theorem ElOk.lt {W:World} {h:Value} {x:List Int} {k:Nat} (he:ElOk W h x k):k < W.heap.size:=by
 obtain ⟨c,cur,h1,h2,h3⟩:=he
 exact z6 h2
theorem RowOk.keep {W W':World} {hds:List Value} {L:List (List Int)} {ks:List Nat} (h:RowOk W hds L ks) (hk:∀ k∈ks,W'.heap[k]? = W.heap[k]?):RowOk W' hds L ks :=
 ⟨h.lh,h.lk,h.nd,fun j a x k h1 h2 h3=>(h.el j a x k h1 h2 h3).keep (hk k (List.mem_of_getElem? h3))⟩
theorem RowOk.below {W W':World} {hds:List Value} {L:List (List Int)} {ks:List Nat} (h:RowOk W hds L ks) (hb:Below W.heap.size W W') (hk:∀ k∈ks,k < W.heap.size):RowOk W' hds L ks :=
 h.keep fun k hk'=>hb.block k (hk k hk')
theorem RowOk.nil (W:World):RowOk W [] [] []:=⟨rfl,rfl,List.nodup_nil,fun j h x k h1=>by simp at h1⟩
theorem RowOk.append {W:World} {hds hds':List Value} {L L':List (List Int)} {ks ks':List Nat} (h:RowOk W hds L ks) (h':RowOk W hds' L' ks') (hd:∀ k∈ks,k ∉ ks'):RowOk W (hds++hds') (L++L') (ks++ks'):=by
 have l1:=h.lh
 have l2:=h.lk
 have l3:=h'.lh
 have l4:=h'.lk
 refine ⟨by simp [l1,l3],by simp [l2,l4],List.nodup_append.2 ⟨h.nd,h'.nd,fun a ha b hb e=>hd a ha (e▸hb)⟩,fun j a x k h1 h2 h3=>?_⟩
 by_cases hj:j < L.length
 ·rw [List.getElem?_append_left (by omega)] at h1 h2 h3
  exact h.el j a x k h1 h2 h3
 ·rw [List.getElem?_append_right (by omega)] at h1 h2 h3
  rw [l1] at h1
  rw [l2] at h3
  exact h'.el _ a x k h1 h2 h3
theorem RowOk.ks_lt {W:World} {hds:List Value} {L:List (List Int)} {ks:List Nat} (h:RowOk W hds L ks):∀ k∈ks,k < W.heap.size:=fun k hk=>by
 obtain ⟨j,hj⟩:=List.mem_iff_getElem?.1 hk
 have l1:=h.lh
 have l2:=h.lk
 have hl:=(List.getElem?_eq_some_iff.1 hj).1
 exact (h.el j _ _ k (List.getElem?_eq_getElem (by omega)) (List.getElem?_eq_getElem (by omega)) hj).lt
theorem RowOk.one {W:World} {hds:List Value} {L:List (List Int)} {ks:List Nat} (h:RowOk W hds L ks):∀ u∈hds,u.oneCell'=true:=fun u hu=>by
 obtain ⟨j,hj⟩:=List.mem_iff_getElem?.1 hu
 have l1:=h.lh
 have l2:=h.lk
 have hl:=(List.getElem?_eq_some_iff.1 hj).1
 obtain ⟨c,cur,rfl,_⟩:=h.el j _ _ _ hj (List.getElem?_eq_getElem (by omega)) (List.getElem?_eq_getElem (by omega))
 rfl
theorem RowOk.grown {W W':World} {hds:List Value} {L:List (List Int)} {ks:List Nat} {B n e:Nat} {v:Value} {xs:List Value} (h:RowOk W hds L ks) (ho:W.ownsRow B e 1 v n xs) (he:e≠3) (hg:W.grownBy W' v.ownBlock):RowOk W' hds L ks:=by
 refine h.keep fun k hk=>hg.block k (h.ks_lt k hk) fun hb=>?_
 obtain ⟨j,hj⟩:=List.mem_iff_getElem?.1 hk
 have l1:=h.lh
 have l2:=h.lk
 have hl:=(List.getElem?_eq_some_iff.1 hj).1
 obtain ⟨c,cur,_,h2,_⟩:=h.el j _ _ k (List.getElem?_eq_getElem (by omega)) (List.getElem?_eq_getElem (by omega)) hj
 rcases ho.2 with ⟨rfl,_⟩ | ⟨g,cap,cur',rfl,_,k3,_⟩
 ·cases hb
 ·cases hb
  rw [h2] at k3
  cases k3
  exact he rfl
end Go.Proofs
namespace Go.Proofs
open Go Ovi Go.RowKit
def Lup (ok:Nat→Bool) (R:Nat→List (List Int)):Nat→List (List Int)
 | 0=>[]
 | n+1=>Lup ok R n++(if ok n then R n else [])
theorem zkw {ok:Nat→Bool} {R:Nat→List (List Int)} {n:Nat} (h:ok n=true):Lup ok R (n+1)=Lup ok R n++R n:=by simp [Lup,h]
theorem zjw {ok:Nat→Bool} {R:Nat→List (List Int)} {n:Nat} (h:ok n=false):Lup ok R (n+1)=Lup ok R n:=by simp [Lup,h]
set_option maxHeartbeats 600000 in
set_option maxRecDepth 1000000 in
theorem Tryz.matchesWalkA (bf of N capf ba oa M:Nat) (vb:Value) (za:Int) (Aa:Option Addr) (na ca:Nat) (fz:Nat→Int) (fA:Nat→Option Addr) (fn fc:Nat→Nat) (ok:Nat→Bool) (nx:Nat→List Int) (R:Nat→List (List Int)) (w:World)
  (hM:0 < M) (hMc:M≤1) (hN:N≤1048576) (hNc:N≤capf) (hLn:∀ n,n≤N→(Lup ok R n).length≤1000000000)
  (hf0:∀ i,i < N→w.cell? ⟨bf,of+i * 2,none⟩=some (.int .i64 (fz i))) (hf1:∀ i,i < N→w.cell? ⟨bf,of+i * 2+1,none⟩=some (.slice (fA i) (fn i) (fc i)))
  (ha0:w.cell? ⟨ba,oa,none⟩=some (.int .i64 za)) (ha1:w.cell? ⟨ba,oa+1,none⟩=some (.slice Aa na ca)) (hbf:bf < w.heap.size) (hba:ba < w.heap.size)
  (hbind:∀ i,i < N→∀ W,Below w.heap.size w W→Calls Tryz.prog 209 #[vb,.agg #[.int .i64 za,.slice Aa na ca],.agg #[.int .i64 (fz i),.slice (fA i) (fn i) (fc i)]] W fun e W'=>Below W.heap.size W W'∧∃ h,e=.returned (.tuple #[h,.bool (ok i)])∧(ok i=true→∃ k,W.heap.size≤k∧ElOk W' h (nx i) k))
  (hrec:∀ i,i < N→ok i=true→∀ W h k,Below w.heap.size w W→w.heap.size≤k→ElOk W h (nx i) k→Calls Tryz.prog 183 #[.slice (some ⟨bf,of,none⟩) N capf,.slice (some ⟨ba,oa,none⟩) 0 0,h] W fun e W'=>Below W.heap.size W W'∧∃ ad c hds ks,e=.returned (.slice (some ad) hds.length c)∧(∀ j u,hds[j]? = some u→W'.cell? (ad.add j)=some u)∧RowOk W' hds (R i) ks∧∀ q∈ks,q=k∨W.heap.size≤q) :
  Calls Tryz.prog 183 #[.slice (some ⟨bf,of,none⟩) N capf,.slice (some ⟨ba,oa,none⟩) M 1,vb] w fun e w'=>Below w.heap.size w w'∧∃ g cap hds ks,e=.returned (.slice (some ⟨g,0,none⟩) hds.length cap)∧w'.ownsRow w.heap.size 27 1 (.slice (some ⟨g,0,none⟩) hds.length cap) hds.length hds∧RowOk w' hds (Lup ok R N) ks∧∀ q∈ks,w.heap.size≤q:=by
 obtain ⟨i0,hi,hz0,hz1,hz2⟩:=info_parts Tryz.info39
 have HB:Aside (∀ i,i < N→∀ W,Below w.heap.size w W→Calls Tryz.prog 209 #[vb,.agg #[.int .i64 za,.slice Aa na ca],.agg #[.int .i64 (fz i),.slice (fA i) (fn i) (fc i)]] W fun e W'=>Below W.heap.size W W'∧∃ h,e=.returned (.tuple #[h,.bool (ok i)])∧(ok i=true→∃ k,W.heap.size≤k∧ElOk W' h (nx i) k)):=hbind
 have HR:Aside _:=hrec
 have H0:Aside (∀ i,i < N→w.cell? ⟨bf,of+i * 2,none⟩=some (.int .i64 (fz i))):=hf0
 have H1:Aside (∀ i,i < N→w.cell? ⟨bf,of+i * 2+1,none⟩=some (.slice (fA i) (fn i) (fc i))):=hf1
 have HL:Aside (∀ n,n≤N→(Lup ok R n).length≤1000000000):=hLn
 clear hbind hrec hf0 hf1 hLn
 go_enter Tryz.func183,Tryz.ntmps183
 go_wp2
 have hMq:((M:Int)==0)=false:=by assumption
 rw [hMq]
 go_loopg [7,9,10,11,20] N (fun gk s7 s9 s10 s11 s20 wr=>∃ (i g cap:Nat) (hds:List Value) (ks:List Nat),i≤N∧N - i≤gk∧s20=.int .i64 i∧s7=.slice (some ⟨g,0,none⟩) hds.length cap∧wr.ownsRow w.heap.size 27 1 s7 hds.length hds∧RowOk wr hds (Lup ok R i) ks∧(∀ q∈ks,w.heap.size≤q)∧Below w.heap.size w wr)
 case atStart =>
  refine ⟨0,w.heap.size,0,[],[],Nat.zero_le _,by omega,rfl,rfl,⟨rfl,.inr ⟨w.heap.size,0,#[],rfl,Nat.le_refl _,?_,Nat.le_refl _,Nat.zero_le _,rfl,rfl⟩⟩,RowOk.nil _,by simp,(Below.refl _ w).alloc (Nat.le_refl _) _⟩
  exact heap_alloc_new w _
 case round =>
  obtain ⟨i,g,cap,hds,ks,hi1,hg,rfl,rfl,hown,hrow,hks,hbw⟩:=hrel
  by_cases hlt:i < N
  ·have hc0:wr.cell? ⟨bf,of+i * 2,none⟩=some (.int .i64 (fz i)):=(hbw.cell (by exact hbf)).trans (H0.out i hlt)
   have hc1:wr.cell? ⟨bf,of+i * 2+1,none⟩=some (.slice (fA i) (fn i) (fc i)):=(hbw.cell (by exact hbf)).trans (H1.out i hlt)
   have hd0:wr.cell? ⟨ba,oa,none⟩=some (.int .i64 za):=(hbw.cell (by exact hba)).trans ha0
   have hd1:wr.cell? ⟨ba,oa+1,none⟩=some (.slice Aa na ca):=(hbw.cell (by exact hba)).trans ha1
   have hbr:w.heap.size≤wr.heap.size:=hbw.size
   clear H0 H1 ha0 ha1
   go_wp2
   have mixed:Tryz.prog.follows .mixedOrders=true:=by kernel_rfl
   have hbW:Below w.heap.size w (wr.alloc (Obj.cells #[Value.int IntKind.i64 (fz i),Value.slice (fA i) (fn i) (fc i)] 114)):=hbw.alloc hbr _
   have e0:(wr.alloc (Obj.cells #[Value.int IntKind.i64 (fz i),Value.slice (fA i) (fn i) (fc i)] 114)).cell? ⟨wr.heap.size,0,none⟩=some (.int .i64 (fz i)):=zaW wr _ _ rfl
   have e1:(wr.alloc (Obj.cells #[Value.int IntKind.i64 (fz i),Value.slice (fA i) (fn i) (fc i)] 114)).cell? ⟨wr.heap.size,1,none⟩=some (.slice (fA i) (fn i) (fc i)):=zaW wr _ _ rfl
   have hWs:wr.heap.size < (wr.alloc (Obj.cells #[Value.int IntKind.i64 (fz i),Value.slice (fA i) (fn i) (fc i)] 114)).heap.size:=by simp
   have hWh:∀ k,k < wr.heap.size→(wr.alloc (Obj.cells #[Value.int IntKind.i64 (fz i),Value.slice (fA i) (fn i) (fc i)] 114)).heap[k]? = wr.heap[k]? := fun k hk=>((Below.refl wr.heap.size wr).alloc (Nat.le_refl _) _).block k hk
   have hd0':(wr.alloc (Obj.cells #[Value.int IntKind.i64 (fz i),Value.slice (fA i) (fn i) (fc i)] 114)).cell? ⟨ba,oa,none⟩=some (.int .i64 za):=(((Below.refl wr.heap.size wr).alloc (Nat.le_refl _) _).cell (by exact Nat.lt_of_lt_of_le hba hbr)).trans hd0
   have hd1':(wr.alloc (Obj.cells #[Value.int IntKind.i64 (fz i),Value.slice (fA i) (fn i) (fc i)] 114)).cell? ⟨ba,oa+1,none⟩=some (.slice Aa na ca):=(((Below.refl wr.heap.size wr).alloc (Nat.le_refl _) _).cell (by exact Nat.lt_of_lt_of_le hba hbr)).trans hd1
   have hownW:(wr.alloc (Obj.cells #[Value.int IntKind.i64 (fz i),Value.slice (fA i) (fn i) (fc i)] 114)).ownsRow w.heap.size 27 1 (.slice (some ⟨g,0,none⟩) hds.length cap) hds.length hds:=hown.alloc _
   have hrowW:RowOk (wr.alloc (Obj.cells #[Value.int IntKind.i64 (fz i),Value.slice (fA i) (fn i) (fc i)] 114)) hds (Lup ok R i) ks:=hrow.keep fun k hk=>hWh k (hrow.ks_lt k hk)
   clear hWh
   generalize hW:wr.alloc (Obj.cells #[Value.int IntKind.i64 (fz i),Value.slice (fA i) (fn i) (fc i)] 114)=W at *
   have HW:Hid _:=hW
   clear hW hc0 hc1 hd0 hd1
   have hcl:=HB.out i hlt W.drew hbW.drew
   have hrowD:RowOk W.drew hds (Lup ok R i) ks:=hrowW.keep fun k hk=>rfl
   have hownD:=hownW.drew
   have hbD:=hbW.drew
   have hszD:w.heap.size≤W.drew.heap.size:=hbD.size
   clear HB hrowW hownW hbW hown hrow hbw
   have HKS:Aside (∀ q∈ks,w.heap.size≤q):=hks
   clear hks
   cases hok:ok i with
   | false =>
    rw [hok] at hcl
    have e2:Hid (Lup ok R (i+1)=Lup ok R i):=zjw (R:=R) hok
    clear HR HL
    go_region_with_o (first
     | (go_at_call 209;refine hcl.mono ?_;rintro e w1 ⟨hb1,h,rfl,_⟩;have hown1:=own_below' hownD hb1;have hrow1:=hrowD.below hb1 hrowD.ks_lt;have hbw1:=hbD.trans (hb1.mono hszD);clear hcl hownD hrowD hbD hb1 hszD))
    all_goals (
     go_wp2
     go_roundg (N - i - 1)
     case measure=>omega
     case rel=>exact ⟨i+1,g,cap,hds,ks,by omega,by omega,by go_num,rfl,hown1,by rw [e2.out];exact hrow1,HKS.out,hbw1⟩)
   | true =>
    rw [hok] at hcl
    have e2:Hid (Lup ok R (i+1)=Lup ok R i++R i):=zkw (R:=R) hok
    have hl1:=HL.out (i+1) (by omega)
    rw [e2.out,List.length_append] at hl1
    have HRi:=HR.out i hlt hok
    have HRR:Aside (∀ (W:World) (h:Value) (k:Nat),Below w.heap.size w W→w.heap.size≤k→ElOk W h (nx i) k→Calls Tryz.prog 183 #[.slice (some ⟨bf,of,none⟩) N capf,.slice (some ⟨ba,oa,none⟩) 0 0,h] W fun e W'=>Below W.heap.size W W'∧∃ ad c hds ks,e=.returned (.slice (some ad) hds.length c)∧(∀ j u,hds[j]? = some u→W'.cell? (ad.add j)=some u)∧RowOk W' hds (R i) ks∧∀ q∈ks,q=k∨W.heap.size≤q):=HRi
    clear HR HL HRi
    go_region_with_o (first
     | (go_at_call 209;refine hcl.mono ?_;rintro e w1 ⟨hb1,h,rfl,hk⟩;obtain ⟨k,hk1,hel⟩:=hk rfl;have hown1:=own_below' hownD hb1;have hrow1:=hrowD.below hb1 hrowD.ks_lt;have hlt1:∀ q∈ks,q < k:=fun q hq=>Nat.lt_of_lt_of_le (hrowD.ks_lt q hq) hk1;have hbw1:=hbD.trans (hb1.mono hszD);have hsz1:w.heap.size≤w1.heap.size:=hbw1.size;have hrc:=HRR.out w1 h k hbw1 (Nat.le_trans hszD hk1) hel;have hkl:=hel.lt;have hkw:w.heap.size≤k:=Nat.le_trans hszD hk1;clear hcl hownD hrowD hbD hb1 hk hel))
    all_goals (
     go_wp2_with (first
      | (go_at_call 183;refine hrc.mono ?_;rintro e2' w2 ⟨hb2,ad,c2,hds2,ks2,rfl,hcells,hrow2,hks2⟩;have hown2:=own_below' hown1 hb2;have hrow1':=hrow1.below hb2 hrow1.ks_lt;have hbw2:=hbw1.trans (hb2.mono hsz1);have hsz2:w.heap.size≤w2.heap.size:=Nat.le_trans hsz1 hb2.size;clear hrc hown1 hrow1)
      | (at_builtin;refine wpList_append_own _ rfl _ _ 56 rfl w.heap.size 27 i0 (.slice none 0 0) 1 24 Tryz.underlying56 hi hz0 hz1 hz2 rfl (by decide) _ _ _ rfl hown2 ad hds2.length c2 hds2 rfl (Nat.mul_one _).symm hcells ?c2 ?c3 ?c4 ?c5 ?_))
     case c2=>exact hrow2.one
     case c3=>have g1:=hrow1'.lh;have g2:=hrow2.lh;unfold maxLen;omega
     case c4=>have g1:=hrow1'.lh;have g2:=hrow2.lh;omega
     case c5=>exact hsz2
     all_goals (
      intro v' w3 hown3 hgrow _
      have hd:∀ q∈ks,q ∉ ks2:=fun q hq hq2=>by
       have a1:=hlt1 q hq
       rcases hks2 q hq2 with a2 | a2<;>omega
      have hrow3:=((hrow1'.append hrow2 hd).grown hown2 (by decide) hgrow)
      have hbw3:=zgJ hbw2 hsz2 (ziT hown2) hgrow
      have hks3:∀ q∈ks++ks2,w.heap.size≤q:=fun q hq=>by
       rcases List.mem_append.1 hq with hq | hq
       ·exact HKS.out q hq
       ·rcases hks2 q hq with a2 | a2<;>omega
      rw [← e2.out] at hrow3
      rw [← List.length_append] at hown3
      obtain ⟨g3,cap3,rfl⟩:∃ g3 cap3,v'=.slice (some ⟨g3,0,none⟩) (hds++hds2).length cap3:=by
       rcases hown3.2 with ⟨rfl,_⟩ | ⟨g3,cap3,cur3,rfl,_⟩
       ·rename_i hnn
        simp at hnn
       ·exact ⟨g3,cap3,rfl⟩
      clear hgrow hown2 hbw2 hrow2 hrow1' hcells hks2 hd hl1
      go_wp2
      go_roundg (N - i - 1)
      case measure=>omega
      case rel=>exact ⟨i+1,g3,cap3,hds++hds2,ks++ks2,by omega,by omega,by go_num,rfl,hown3,hrow3,hks3,hbw3⟩))
  ·obtain rfl:i=N:=by omega
   clear HB HR H0 H1 HL
   go_wp2
   go_ret
   exact ⟨hbw,g,cap,hds,ks,rfl,hown,hrow,hks⟩
set_option maxHeartbeats 600000 in
set_option maxRecDepth 1000000 in
theorem Tryz.matchesWalkB (bf of N capf ba oa M capa:Nat) (vb:Value) (za:Int) (Aa:Option Addr) (na ca:Nat) (fz:Nat→Int) (fA:Nat→Option Addr) (fn fc:Nat→Nat) (ok:Nat→Bool) (nx:Nat→List Int) (R:Nat→List (List Int)) (w:World)
  (hM:0 < M) (hMc:M≤capa) (hne:¬ capa=1) (hN:N≤1048576) (hNc:N≤capf) (hLn:∀ n,n≤N→(Lup ok R n).length≤1000000000)
  (hf0:∀ i,i < N→w.cell? ⟨bf,of+i * 2,none⟩=some (.int .i64 (fz i))) (hf1:∀ i,i < N→w.cell? ⟨bf,of+i * 2+1,none⟩=some (.slice (fA i) (fn i) (fc i)))
  (ha0:w.cell? ⟨ba,oa,none⟩=some (.int .i64 za)) (ha1:w.cell? ⟨ba,oa+1,none⟩=some (.slice Aa na ca)) (hbf:bf < w.heap.size) (hba:ba < w.heap.size)
  (hbind:∀ i,i < N→∀ W,Below w.heap.size w W→Calls Tryz.prog 209 #[vb,.agg #[.int .i64 za,.slice Aa na ca],.agg #[.int .i64 (fz i),.slice (fA i) (fn i) (fc i)]] W fun e W'=>Below W.heap.size W W'∧∃ h,e=.returned (.tuple #[h,.bool (ok i)])∧(ok i=true→∃ k,W.heap.size≤k∧ElOk W' h (nx i) k))
  (hrec:∀ i,i < N→ok i=true→∀ W h k,Below w.heap.size w W→w.heap.size≤k→ElOk W h (nx i) k→Calls Tryz.prog 183 #[.slice (some ⟨bf,of,none⟩) N capf,.slice (some ⟨ba,oa+2,none⟩) (M - 1) (capa - 1),h] W fun e W'=>Below W.heap.size W W'∧∃ ad c hds ks,e=.returned (.slice (some ad) hds.length c)∧(∀ j u,hds[j]? = some u→W'.cell? (ad.add j)=some u)∧RowOk W' hds (R i) ks∧∀ q∈ks,q=k∨W.heap.size≤q) :
  Calls Tryz.prog 183 #[.slice (some ⟨bf,of,none⟩) N capf,.slice (some ⟨ba,oa,none⟩) M capa,vb] w fun e w'=>Below w.heap.size w w'∧∃ g cap hds ks,e=.returned (.slice (some ⟨g,0,none⟩) hds.length cap)∧w'.ownsRow w.heap.size 27 1 (.slice (some ⟨g,0,none⟩) hds.length cap) hds.length hds∧RowOk w' hds (Lup ok R N) ks∧∀ q∈ks,w.heap.size≤q:=by
 obtain ⟨i0,hi,hz0,hz1,hz2⟩:=info_parts Tryz.info39
 have HB:Aside (∀ i,i < N→∀ W,Below w.heap.size w W→Calls Tryz.prog 209 #[vb,.agg #[.int .i64 za,.slice Aa na ca],.agg #[.int .i64 (fz i),.slice (fA i) (fn i) (fc i)]] W fun e W'=>Below W.heap.size W W'∧∃ h,e=.returned (.tuple #[h,.bool (ok i)])∧(ok i=true→∃ k,W.heap.size≤k∧ElOk W' h (nx i) k)):=hbind
 have HR:Aside _:=hrec
 have H0:Aside (∀ i,i < N→w.cell? ⟨bf,of+i * 2,none⟩=some (.int .i64 (fz i))):=hf0
 have H1:Aside (∀ i,i < N→w.cell? ⟨bf,of+i * 2+1,none⟩=some (.slice (fA i) (fn i) (fc i))):=hf1
 have HL:Aside (∀ n,n≤N→(Lup ok R n).length≤1000000000):=hLn
 clear hbind hrec hf0 hf1 hLn
 go_enter Tryz.func183,Tryz.ntmps183
 go_wp2
 have hMq:((M:Int)==0)=false:=by assumption
 rw [hMq]
 go_loopg [7,9,10,11,20] N (fun gk s7 s9 s10 s11 s20 wr=>∃ (i g cap:Nat) (hds:List Value) (ks:List Nat),i≤N∧N - i≤gk∧s20=.int .i64 i∧s7=.slice (some ⟨g,0,none⟩) hds.length cap∧wr.ownsRow w.heap.size 27 1 s7 hds.length hds∧RowOk wr hds (Lup ok R i) ks∧(∀ q∈ks,w.heap.size≤q)∧Below w.heap.size w wr)
 case atStart =>
  refine ⟨0,w.heap.size,0,[],[],Nat.zero_le _,by omega,rfl,rfl,⟨rfl,.inr ⟨w.heap.size,0,#[],rfl,Nat.le_refl _,?_,Nat.le_refl _,Nat.zero_le _,rfl,rfl⟩⟩,RowOk.nil _,by simp,(Below.refl _ w).alloc (Nat.le_refl _) _⟩
  exact heap_alloc_new w _
 case round =>
  obtain ⟨i,g,cap,hds,ks,hi1,hg,rfl,rfl,hown,hrow,hks,hbw⟩:=hrel
  by_cases hlt:i < N
  ·have hc0:wr.cell? ⟨bf,of+i * 2,none⟩=some (.int .i64 (fz i)):=(hbw.cell (by exact hbf)).trans (H0.out i hlt)
   have hc1:wr.cell? ⟨bf,of+i * 2+1,none⟩=some (.slice (fA i) (fn i) (fc i)):=(hbw.cell (by exact hbf)).trans (H1.out i hlt)
   have hd0:wr.cell? ⟨ba,oa,none⟩=some (.int .i64 za):=(hbw.cell (by exact hba)).trans ha0
   have hd1:wr.cell? ⟨ba,oa+1,none⟩=some (.slice Aa na ca):=(hbw.cell (by exact hba)).trans ha1
   have hbr:w.heap.size≤wr.heap.size:=hbw.size
   clear H0 H1 ha0 ha1
   go_wp2
   have mixed:Tryz.prog.follows .mixedOrders=true:=by kernel_rfl
   have hbW:Below w.heap.size w (wr.alloc (Obj.cells #[Value.int IntKind.i64 (fz i),Value.slice (fA i) (fn i) (fc i)] 114)):=hbw.alloc hbr _
   have e0:(wr.alloc (Obj.cells #[Value.int IntKind.i64 (fz i),Value.slice (fA i) (fn i) (fc i)] 114)).cell? ⟨wr.heap.size,0,none⟩=some (.int .i64 (fz i)):=zaW wr _ _ rfl
   have e1:(wr.alloc (Obj.cells #[Value.int IntKind.i64 (fz i),Value.slice (fA i) (fn i) (fc i)] 114)).cell? ⟨wr.heap.size,1,none⟩=some (.slice (fA i) (fn i) (fc i)):=zaW wr _ _ rfl
   have hWs:wr.heap.size < (wr.alloc (Obj.cells #[Value.int IntKind.i64 (fz i),Value.slice (fA i) (fn i) (fc i)] 114)).heap.size:=by simp
   have hWh:∀ k,k < wr.heap.size→(wr.alloc (Obj.cells #[Value.int IntKind.i64 (fz i),Value.slice (fA i) (fn i) (fc i)] 114)).heap[k]? = wr.heap[k]? := fun k hk=>((Below.refl wr.heap.size wr).alloc (Nat.le_refl _) _).block k hk
   have hd0':(wr.alloc (Obj.cells #[Value.int IntKind.i64 (fz i),Value.slice (fA i) (fn i) (fc i)] 114)).cell? ⟨ba,oa,none⟩=some (.int .i64 za):=(((Below.refl wr.heap.size wr).alloc (Nat.le_refl _) _).cell (by exact Nat.lt_of_lt_of_le hba hbr)).trans hd0
   have hd1':(wr.alloc (Obj.cells #[Value.int IntKind.i64 (fz i),Value.slice (fA i) (fn i) (fc i)] 114)).cell? ⟨ba,oa+1,none⟩=some (.slice Aa na ca):=(((Below.refl wr.heap.size wr).alloc (Nat.le_refl _) _).cell (by exact Nat.lt_of_lt_of_le hba hbr)).trans hd1
   have hownW:(wr.alloc (Obj.cells #[Value.int IntKind.i64 (fz i),Value.slice (fA i) (fn i) (fc i)] 114)).ownsRow w.heap.size 27 1 (.slice (some ⟨g,0,none⟩) hds.length cap) hds.length hds:=hown.alloc _
   have hrowW:RowOk (wr.alloc (Obj.cells #[Value.int IntKind.i64 (fz i),Value.slice (fA i) (fn i) (fc i)] 114)) hds (Lup ok R i) ks:=hrow.keep fun k hk=>hWh k (hrow.ks_lt k hk)
   clear hWh
   generalize hW:wr.alloc (Obj.cells #[Value.int IntKind.i64 (fz i),Value.slice (fA i) (fn i) (fc i)] 114)=W at *
   have HW:Hid _:=hW
   clear hW hc0 hc1 hd0 hd1
   have hcl:=HB.out i hlt W.drew hbW.drew
   have hrowD:RowOk W.drew hds (Lup ok R i) ks:=hrowW.keep fun k hk=>rfl
   have hownD:=hownW.drew
   have hbD:=hbW.drew
   have hszD:w.heap.size≤W.drew.heap.size:=hbD.size
   clear HB hrowW hownW hbW hown hrow hbw
   have HKS:Aside (∀ q∈ks,w.heap.size≤q):=hks
   clear hks
   cases hok:ok i with
   | false =>
    rw [hok] at hcl
    have e2:Hid (Lup ok R (i+1)=Lup ok R i):=zjw (R:=R) hok
    clear HR HL
    go_region_with_o (first
     | (go_at_call 209;refine hcl.mono ?_;rintro e w1 ⟨hb1,h,rfl,_⟩;have hown1:=own_below' hownD hb1;have hrow1:=hrowD.below hb1 hrowD.ks_lt;have hbw1:=hbD.trans (hb1.mono hszD);clear hcl hownD hrowD hbD hb1 hszD))
    all_goals (
     go_wp2
     go_roundg (N - i - 1)
     case measure=>omega
     case rel=>exact ⟨i+1,g,cap,hds,ks,by omega,by omega,by go_num,rfl,hown1,by rw [e2.out];exact hrow1,HKS.out,hbw1⟩)
   | true =>
    rw [hok] at hcl
    have e2:Hid (Lup ok R (i+1)=Lup ok R i++R i):=zkw (R:=R) hok
    have hl1:=HL.out (i+1) (by omega)
    rw [e2.out,List.length_append] at hl1
    have HRi:=HR.out i hlt hok
    have HRR:Aside (∀ (W:World) (h:Value) (k:Nat),Below w.heap.size w W→w.heap.size≤k→ElOk W h (nx i) k→Calls Tryz.prog 183 #[.slice (some ⟨bf,of,none⟩) N capf,.slice (some ⟨ba,oa+2,none⟩) (M - 1) (capa - 1),h] W fun e W'=>Below W.heap.size W W'∧∃ ad c hds ks,e=.returned (.slice (some ad) hds.length c)∧(∀ j u,hds[j]? = some u→W'.cell? (ad.add j)=some u)∧RowOk W' hds (R i) ks∧∀ q∈ks,q=k∨W.heap.size≤q):=HRi
    clear HR HL HRi
    go_region_with_o (first
     | (go_at_call 209;refine hcl.mono ?_;rintro e w1 ⟨hb1,h,rfl,hk⟩;obtain ⟨k,hk1,hel⟩:=hk rfl;have hown1:=own_below' hownD hb1;have hrow1:=hrowD.below hb1 hrowD.ks_lt;have hlt1:∀ q∈ks,q < k:=fun q hq=>Nat.lt_of_lt_of_le (hrowD.ks_lt q hq) hk1;have hbw1:=hbD.trans (hb1.mono hszD);have hsz1:w.heap.size≤w1.heap.size:=hbw1.size;have hrc:=HRR.out w1 h k hbw1 (Nat.le_trans hszD hk1) hel;have hkl:=hel.lt;have hkw:w.heap.size≤k:=Nat.le_trans hszD hk1;clear hcl hownD hrowD hbD hb1 hk hel))
    all_goals (
     go_wp2_with (first
      | (go_at_call 183;refine hrc.mono ?_;rintro e2' w2 ⟨hb2,ad,c2,hds2,ks2,rfl,hcells,hrow2,hks2⟩;have hown2:=own_below' hown1 hb2;have hrow1':=hrow1.below hb2 hrow1.ks_lt;have hbw2:=hbw1.trans (hb2.mono hsz1);have hsz2:w.heap.size≤w2.heap.size:=Nat.le_trans hsz1 hb2.size;clear hrc hown1 hrow1)
      | (at_builtin;refine wpList_append_own _ rfl _ _ 56 rfl w.heap.size 27 i0 (.slice none 0 0) 1 24 Tryz.underlying56 hi hz0 hz1 hz2 rfl (by decide) _ _ _ rfl hown2 ad hds2.length c2 hds2 rfl (Nat.mul_one _).symm hcells ?c2 ?c3 ?c4 ?c5 ?_))
     case c2=>exact hrow2.one
     case c3=>have g1:=hrow1'.lh;have g2:=hrow2.lh;unfold maxLen;omega
     case c4=>have g1:=hrow1'.lh;have g2:=hrow2.lh;omega
     case c5=>exact hsz2
     all_goals (
      intro v' w3 hown3 hgrow _
      have hd:∀ q∈ks,q ∉ ks2:=fun q hq hq2=>by
       have a1:=hlt1 q hq
       rcases hks2 q hq2 with a2 | a2<;>omega
      have hrow3:=((hrow1'.append hrow2 hd).grown hown2 (by decide) hgrow)
      have hbw3:=zgJ hbw2 hsz2 (ziT hown2) hgrow
      have hks3:∀ q∈ks++ks2,w.heap.size≤q:=fun q hq=>by
       rcases List.mem_append.1 hq with hq | hq
       ·exact HKS.out q hq
       ·rcases hks2 q hq with a2 | a2<;>omega
      rw [← e2.out] at hrow3
      rw [← List.length_append] at hown3
      obtain ⟨g3,cap3,rfl⟩:∃ g3 cap3,v'=.slice (some ⟨g3,0,none⟩) (hds++hds2).length cap3:=by
       rcases hown3.2 with ⟨rfl,_⟩ | ⟨g3,cap3,cur3,rfl,_⟩
       ·rename_i hnn
        simp at hnn
       ·exact ⟨g3,cap3,rfl⟩
      clear hgrow hown2 hbw2 hrow2 hrow1' hcells hks2 hd hl1
      go_wp2
      go_roundg (N - i - 1)
      case measure=>omega
      case rel=>exact ⟨i+1,g3,cap3,hds++hds2,ks++ks2,by omega,by omega,by go_num,rfl,hown3,hrow3,hks3,hbw3⟩))
  ·obtain rfl:i=N:=by omega
   clear HB HR H0 H1 HL
   go_wp2
   go_ret
   exact ⟨hbw,g,cap,hds,ks,rfl,hown,hrow,hks⟩
set_option maxHeartbeats 600000 in
set_option maxRecDepth 1000000 in
theorem Tryz.matchesNil (vf:Value) (A Ah:Option Addr) (c nh ch:Nat) (w:World) :
  Calls Tryz.prog 183 #[vf,.slice A 0 c,.slice Ah nh ch] w fun e w'=>e=.returned (.slice (some ⟨w.heap.size,0,none⟩) 1 1)∧w'=w.alloc (.cells #[.slice Ah nh ch] 27 (0,0)):=by
 go_enter Tryz.func183,Tryz.ntmps183
 go_wp2
 go_ret
 exact ⟨rfl,rfl⟩
set_option maxHeartbeats 600000 in
set_option maxRecDepth 1000000 in
theorem Tryz.matchesNone (A Ax:Option Addr) (cf M cx:Nat) (vb:Value) (w:World) (hM:0 < M) :
  Calls Tryz.prog 183 #[.slice A 0 cf,.slice Ax M cx,vb] w fun e w'=>e=.returned (.slice (some ⟨w.heap.size,0,none⟩) 0 0)∧w'=w.alloc (.cells #[] 27 (0,0)):=by
 go_enter Tryz.func183,Tryz.ntmps183
 go_wp2
 have hMq:((M:Int)==0)=false:=by assumption
 rw [hMq]
 go_loopg [7,9,10,11,20] 0 (fun gk s7 s9 s10 s11 s20 wr=>s20=.int .i64 0∧s7=.slice (some ⟨w.heap.size,0,none⟩) 0 0∧wr=w.alloc (.cells #[] 27 (0,0)))
 case atStart=>exact ⟨rfl,rfl,rfl⟩
 case round =>
  obtain ⟨rfl,rfl,rfl⟩:=hrel
  go_wp2
  go_ret
  exact ⟨rfl,rfl⟩
end Go.Proofs
namespace Ovi
open Go Go.RowKit
theorem RD.slice_eq {w:World} {S T:Nat→Prop} {v:Value} {sz:Nat} {xs:Rows} (h:RD w S T v (.list sz xs)):∃ A cap,v=.slice A xs.length cap∧xs.length≤cap:=by
 generalize hX:D.list sz xs=X at h
 cases h with
 | list A cap sz xs g h1 h3 h4 h5 h6=>cases hX;exact ⟨A,cap,rfl,h1⟩
 | _=>cases hX
theorem RD.atoms {w:World} {S T:Nat→Prop} {v:Value} {xs:List Atom} (h:RD w S T v (.list 2 (A1 xs))) (hne:xs≠[]) :
  ∃ (b o cap:Nat) (fz:Nat→Int) (fA:Nat→Option Addr) (fn fc:Nat→Nat),v=.slice (some ⟨b,o,none⟩) xs.length cap∧xs.length≤cap∧S b ∧
   ∀ i x,xs[i]? = some x→w.cell? ⟨b,o+i * 2,none⟩=some (.int .i64 (fz i))∧w.cell? ⟨b,o+i * 2+1,none⟩=some (.slice (fA i) (fn i) (fc i))∧fz i=x.1∧RD w S T (.slice (fA i) (fn i) (fc i)) (.list 1 (I1 x.2)):=by
 generalize hX:D.list 2 (A1 xs)=X at h
 cases h with
 | list A cap sz ys g h1 h3 h4 h5 h6 =>
  cases hX
  have c0:∀ i x,xs[i]? = some x→zk (A1 xs) i 0=some (.int .i64 x.1):=fun i x hx=>by unfold zk;rw [zaG hx];rfl
  have c1:∀ i x,xs[i]? = some x→zk (A1 xs) i 1=some (.list 1 (I1 x.2)):=fun i x hx=>by unfold zk;rw [zaG hx];rfl
  have hs:∀ i,∃ A' n c,∀ x,xs[i]? = some x→g i 1=.slice A' n c:=fun i=>by
   cases hx:xs[i]? with
   | none=>exact ⟨none,0,0,fun x hx'=>by cases hx'⟩
   | some x =>
    obtain ⟨A',c,e,_⟩:=(h5 i 1 _ (c1 i x hx)).slice_eq
    exact ⟨A',_,c,fun y _=>e⟩
  obtain ⟨fA,hs⟩:=Classical.axiomOfChoice hs
  obtain ⟨fn,hs⟩:=Classical.axiomOfChoice hs
  obtain ⟨fc,hs⟩:=Classical.axiomOfChoice hs
  obtain ⟨x0,r,rfl⟩:=List.exists_cons_of_ne_nil hne
  obtain ⟨ad,hA,hS,hc⟩:=h4 0 0 _ (c0 0 x0 rfl)
  obtain ⟨b,o,spot⟩:=ad
  have hspot:spot=none:=by simpa [Addr.add] using World.cell?_spot hc
  subst hspot hA
  refine ⟨b,o,cap,fun i=>((x0::r).getD i (0,[])).1,fA,fn,fc,by rw [zq],by rw [zq] at h1;exact h1,hS,fun i x hx=>?_⟩
  obtain ⟨ad,hA,_,k0⟩:=h4 i 0 _ (c0 i x hx)
  cases hA
  obtain ⟨ad,hA,_,k1⟩:=h4 i 1 _ (c1 i x hx)
  cases hA
  have e0:=(h5 i 0 _ (c0 i x hx)).int_eq
  have e1:=hs i x hx
  have hg:(x0::r).getD i (0,[])=x:=by rw [List.getD_eq_getElem?_getD,hx];rfl
  rw [Ovi.add_at] at k0 k1
  refine ⟨?_,?_,by simp only [hg],?_⟩
  ·simp only [hg];rw [← e0];exact k0
  ·rw [← e1];exact k1
  ·rw [← e1];exact h5 i 1 _ (c1 i x hx)
 | _=>cases hX
end Ovi
namespace Go.Proofs.YtiacahdabflcdaaGreat.Q
open Go Ovi Go.RowKit Go.Proofs
variable {k:Nat}
theorem ok:zl2 Tryz.prog=true:=by kernel_rfl
theorem mixed:Tryz.prog.follows .mixedOrders=true:=by kernel_rfl
theorem bare (k:Nat):Sound Tryz.prog noG (C0 k):=zft (zcR mixed) (zfI ok) (zlq _ _) k
noncomputable def Cb (k:Nat):zi:=zbo P hs (zgg [(87,zbn 3)]) k
theorem zmg (hc:CloneC Tryz.prog 87 3) (k:Nat):Sound Tryz.prog noG (Cb k):=zft (zcR mixed) (zfI ok) (zgW (by
 intro x hx
 simp only [List.mem_cons,List.not_mem_nil,or_false] at hx
 rcases hx with rfl
 exact hc.ok)) k
theorem b209 (x f:Atom) (b:List Int) (hT:okT x.2) (hl:x.1=f.1→f.2.length=x.2.length) (h5:x.2.length≤1048576) (hb:b.length=5) (hk:x.2.length < k) :
  Cb (k+2) 209 [.d (.list 1 (I1 b)),.agg [.d (.int .i64 x.1),.d (.list 1 (I1 x.2))],.agg [.d (.int .i64 f.1),.d (.list 1 (I1 f.2))]]=fitR (fitA x f b):=by
 have e0:Cb (k+1+1) 209 [.d (.list 1 (I1 b)),.agg [.d (.int .i64 x.1),.d (.list 1 (I1 x.2))],.agg [.d (.int .i64 f.1),.d (.list 1 (I1 f.2))]]=zc5 P hs (Cb (k+1)) 209 (k+1) Tryz.f209 [.d (.list 1 (I1 b)),.agg [.d (.int .i64 x.1),.d (.list 1 (I1 x.2))],.agg [.d (.int .i64 f.1),.d (.list 1 (I1 f.2))]]:=by kernel_rfl
 have e1:zc5 P hs (Cb (k+1)) 209 (k+1) Tryz.f209 [.d (.list 1 (I1 b)),.agg [.d (.int .i64 x.1),.d (.list 1 (I1 x.2))],.agg [.d (.int .i64 f.1),.d (.list 1 (I1 f.2))]]=ite' (x.1 != f.1) (some ([(false,[.nil]),(false,[.d (.bool false)])])) (zb ((Cb (k+1)) 87 [.d (.list 1 (I1 b))]) fun r7=>zc (resO 3 1 1 false 1 r7 0 0) fun l8=>F209.L5 (k+1) (Cb (k+1)) (k+1) (I1 x.2) (((List.length (I1 x.2)):Int)) 0 f.1 (I1 f.2) l8):=by kernel_rfl
 rw [show k+2=k+1+1 from rfl,e0,e1]
 unfold fitA
 by_cases h:x.1=f.1
 ·rw [ite'_f (by simpa using h),if_pos h]
  have e:Cb (k+1) 87 [.d (.list 1 (I1 b))]=some [(false,[.row 3 1 (I1 b)])]:=by
   have:Cb (k+1) 87 [.d (.list 1 (I1 b))]=zbn 3 [.d (.list 1 (I1 b))]:=by kernel_rfl
   rw [this]
   simp only [zbn,zbz]
   rw [show Nat.ble b.length 1099511627776=true from Nat.ble_eq_true_of_le (by omega)]
   rfl
  rw [e]
  simp only [zl,zy,zh]
  have:=l209 x.2 f.2 f.1 hT (hl h) h5 (k+1) (Cb (k+1)) x.2.length 0 (k+1) b (by omega) (by omega) hb
  rw [List.drop_zero,List.drop_zero] at this
  rw [zn]
  exact this
 ·rw [ite'_t (by simpa using h),if_neg h];rfl
theorem zjG {zs:List Int} {i:Nat} {z:Int} (h:zs[i]? = some z):zk (I1 zs) i 0=some (.int .i64 z):=by unfold zk;rw [I1_get' h];rfl
theorem zpe (hc:CloneC Tryz.prog 87 3) {w:World} {S T:Nat→Prop} (hS:∀ k,S k→k < w.heap.size) (hT:∀ k,T k→k < w.heap.size) (x f:Atom) (b:List Int) (ho:okT x.2) (hl:x.1=f.1→f.2.length=x.2.length) (h5:x.2.length≤1048576) (hb:b.length=5)
  {vb:Value} {za zf:Int} {A A':Option Addr} {n c n' c':Nat} (rb:RD w S T vb (.list 1 (I1 b))) (hz:za=x.1) (rx:RD w S T (.slice A n c) (.list 1 (I1 x.2))) (hz':zf=f.1) (rf:RD w S T (.slice A' n' c') (.list 1 (I1 f.2))) :
  Calls Tryz.prog 209 #[vb,.agg #[.int .i64 za,.slice A n c],.agg #[.int .i64 zf,.slice A' n' c']] w fun e w'=>Below w.heap.size w w'∧∃ h,e=.returned (.tuple #[h,.bool (fitA x f b).isSome])∧((fitA x f b).isSome=true→∃ k,w.heap.size≤k∧ElOk w' h ((fitA x f b).getD []) k):=by
 subst hz hz'
 have he:=b209 (k:=x.2.length+1) x f b ho hl h5 hb (by omega)
 have hargs:Ovi.Leaves (AC w S T (fun _=>none) (fun _=>none)) #[vb,.agg #[.int .i64 x.1,.slice A n c],.agg #[.int .i64 f.1,.slice A' n' c']] [.d (.list 1 (I1 b)),.agg [.d (.int .i64 x.1),.d (.list 1 (I1 x.2))],.agg [.d (.int .i64 f.1),.d (.list 1 (I1 f.2))]]:=by
  refine ⟨rfl,fun j a ha=>?_⟩
  match j,ha with
  | 0,ha=>cases ha;exact ⟨_,rfl,rb⟩
  | 1,ha =>
   cases ha
   refine ⟨_,rfl,_,rfl,rfl,fun j a ha=>?_⟩
   match j,ha with
   | 0,ha=>cases ha;exact ⟨_,rfl,RD.int .i64 x.1⟩
   | 1,ha=>cases ha;exact ⟨_,rfl,rx⟩
   | j+2,ha=>simp at ha
  | 2,ha =>
   cases ha
   refine ⟨_,rfl,_,rfl,rfl,fun j a ha=>?_⟩
   match j,ha with
   | 0,ha=>cases ha;exact ⟨_,rfl,RD.int .i64 f.1⟩
   | 1,ha=>cases ha;exact ⟨_,rfl,rf⟩
   | j+2,ha=>simp at ha
  | j+3,ha=>simp at ha
 have two:∀ {w':World} {S':Nat→Prop} {mr:Nat→Nat→Option Nat} {v:Value} {q:RL} {t:Bool},resC w' S' T w.heap.size mr v [(false,[q]),(false,[.d (.bool t)])]→∃ u,v=.tuple #[u,.bool t]∧rlC w' S' T w.heap.size (mr 0 0) u q:=by
  intro w' S' mr v q t hr
  obtain ⟨⟨us,h1,h2,h3⟩,_⟩:=hr
  obtain ⟨u,hu,l,hl,hq⟩:=h3 0 _ rfl
  obtain ⟨u',hu',l',hl',hq'⟩:=h3 1 _ rfl
  cases hl
  cases hl'
  have hq':RD w' S' T u' (.bool t):=hq'
  obtain ⟨y0,y1,rfl⟩:∃ y0 y1,us=[y0,y1]:=by
   match us,h2 with
   | [y0,y1],_=>exact ⟨y0,y1,rfl⟩
  cases hu
  cases hu'
  refine ⟨u,?_,hq⟩
  rw [h1]
  cases hq'
  rfl
 cases hf:fitA x f b with
 | none =>
  rw [hf] at he
  refine ((zmg hc _).plain 209 _ _ he w S T _ hS hT hargs trivial).mono fun e w' ⟨v,S',mr,he,hbw,_,_,hr,_⟩=>?_
  obtain ⟨u,rfl,_⟩:=two hr
  exact ⟨hbw,u,he,fun h=>by cases h⟩
 | some b' =>
  rw [hf] at he
  have hb':b'.length=5:=by rw [zeH hf,hb]
  refine ((zmg hc _).plain 209 _ _ he w S T _ hS hT hargs trivial).mono fun e w' ⟨v,S',mr,he,hbw,_,_,hr,_⟩=>?_
  obtain ⟨u,rfl,hq⟩:=two hr
  refine ⟨hbw,u,he,fun _=>?_⟩
  obtain ⟨q1,q2,q3⟩:rowC w' S' T w.heap.size (mr 0 0) 3 1 (I1 b') u:=hq
  generalize mr 0 0=mo at q2 q3
  cases mo with
  | none =>
   have:(I1 b').length=0:=by rw [q3];rfl
   rw [zn] at this
   omega
  | some g =>
   obtain ⟨cap,cur,hu,hg,hcap,hmax,hsz⟩:=q2
   obtain ⟨hB,_,cur',hg',hle,hcell⟩:=q3
   rw [hg] at hg'
   cases hg'
   rw [zn] at hu hcap
   refine ⟨g,hB,cap,cur,hu,hg,hcap,hmax,by rw [hsz,Nat.mul_one],fun j z hz=>?_⟩
   obtain ⟨_,v,hv,hrd⟩:=hcell j 0 _ (zjG hz)
   rw [RD.int_eq hrd] at hv
   simpa using hv
def MatC (fs xs:List Atom):Prop:=∀ (w:World) (S T:Nat→Prop) (vf vx vb:Value) (b:List Int),(∀ k,S k→k < w.heap.size)→(∀ k,T k→k < w.heap.size)→b.length=5→RD w S T vf (.list 2 (A1 fs))→RD w S T vx (.list 2 (A1 xs))→RD w S T vb (.list 1 (I1 b)) →
 Calls Tryz.prog 183 #[vf,vx,vb] w fun e w'=>Below w.heap.size w w'∧∃ g cap hds ks,e=.returned (.slice (some ⟨g,0,none⟩) hds.length cap)∧w'.ownsRow w.heap.size 27 1 (.slice (some ⟨g,0,none⟩) hds.length cap) hds.length hds∧RowOk w' hds (mats fs xs b) ks∧∀ q∈ks,w.heap.size≤q
theorem zjv (fs xs:List Atom) (x:Atom) (b:List Int):∀ n,n≤fs.length→Lup (fun i=>(fitA x (fs.getD i (0,[])) b).isSome) (fun i=>mats fs xs ((fitA x (fs.getD i (0,[])) b).getD [])) n=(fs.take n).flatMap fun f=>((fitA x f b).map (mats fs xs)).getD []
 | 0,_=>by simp [Lup]
 | n+1,hn=>by
  have hf:=List.getElem?_eq_getElem (show n < fs.length by omega)
  have hg:fs.getD n (0,[])=fs[n]:=by rw [List.getD_eq_getElem?_getD,hf];rfl
  rw [Lup,zjv fs xs x b n (by omega),List.take_add_one,hf,List.flatMap_append]
  congr 1
  simp only [hg,Option.toList_some,List.flatMap_cons,List.flatMap_nil,List.append_nil]
  cases fitA x fs[n] b with
  | none=>rfl
  | some c=>rfl
theorem ElOk.rd {w:World} {T:Nat→Prop} {S:Nat→Prop} {h:Value} {x:List Int} {k:Nat} (he:ElOk w h x k) (hk:S k):RD w S T h (.list 1 (I1 x)):=by
 obtain ⟨c,cur,rfl,hb,h1,h2,h3,h4⟩:=he
 refine RI.rd ⟨some ⟨k,0,none⟩,c,rfl,h1,fun i z hz=>⟨_,rfl,hk,?_⟩⟩
 rw [Ovi.add_at]
 simp only [World.cell?, hb,Nat.zero_add]
 exact h4 i z hz
theorem ziU {w:World} {B e g cap:Nat} {hds:List Value} (h:w.ownsRow B e 1 (.slice (some ⟨g,0,none⟩) hds.length cap) hds.length hds):∃ cur,w.heap[g]? = some (.cells cur e (0,0))∧B≤g∧hds.length≤cap∧cap≤maxLen∧cur.size=cap∧∀ (j:Nat) u,hds[j]? = some u→cur[j]? = some u:=by
 rcases h.2 with ⟨h1,_⟩ | ⟨g',cap',cur,h1,h2,h3,h4,h5,h6,h7⟩
 ·cases h1
 ·cases h1
  refine ⟨cur,h3,h2,h4,h5,by rw [h6,Nat.mul_one],fun j u hu=>?_⟩
  rw [Nat.mul_one] at h7
  have hj:=(List.getElem?_eq_some_iff.1 hu).1
  rw [← h7,List.getElem?_take,if_pos hj] at hu
  simpa using hu
theorem znE (hc:CloneC Tryz.prog 87 3) {fs xs:List Atom} {x:Atom} (h:Mok fs (x::xs)) (ih:xs≠[]→MatC fs xs):MatC fs (x::xs):=by
 intro w S T vf vx vb b hS hT hb rf rx rb
 by_cases hfs:fs=[]
 ·subst hfs
  obtain ⟨A,cf,rfl,_⟩:=rf.slice_eq
  obtain ⟨Ax,cx,rfl,_⟩:=rx.slice_eq
  rw [zq,zq,List.length_nil]
  refine (Tryz.matchesNone A Ax cf (x::xs).length cx vb w (Nat.succ_pos _)).mono fun e w' ⟨he,hw⟩=>?_
  subst hw
  refine ⟨(Below.refl _ w).alloc (Nat.le_refl _) _,w.heap.size,0,[],[],he,⟨rfl,.inr ⟨w.heap.size,0,#[],rfl,Nat.le_refl _,heap_alloc_new w _,Nat.le_refl _,Nat.zero_le _,rfl,rfl⟩⟩,?_,by simp⟩
  exact RowOk.nil _
 ·obtain ⟨bf,of,capf,fz,fA,fn,fc,rfl,hcf,hSf,hF⟩:=rf.atoms hfs
  obtain ⟨ba,oa,capa,az,aA,an,ac,hvx,hca,hSa,hA⟩:=rx.atoms (by simp)
  subst hvx
  obtain ⟨ha0,ha1,haz,ra⟩:=hA 0 x rfl
  rw [Nat.zero_mul,Nat.add_zero] at ha0 ha1
  obtain ⟨hoT,ho5⟩:=h.ts x List.mem_cons_self
  have hxl:=h.x3
  have hfl:=h.f30
  have getF:∀ i (hi:i < fs.length),fs[i]? = some (fs.getD i (0,[]))∧fs.getD i (0,[])∈fs:=fun i hi=>by
   have e:=List.getElem?_eq_getElem hi
   rw [List.getD_eq_getElem?_getD,e]
   exact ⟨rfl,List.getElem_mem hi⟩
  have hLup:=zjv fs xs x b
  have hall:Lup (fun i=>(fitA x (fs.getD i (0,[])) b).isSome) (fun i=>mats fs xs ((fitA x (fs.getD i (0,[])) b).getD [])) fs.length=mats fs (x::xs) b:=by
   rw [hLup _ (Nat.le_refl _),List.take_length]
   rfl
  have hLn:∀ n,n≤fs.length→(Lup (fun i=>(fitA x (fs.getD i (0,[])) b).isSome) (fun i=>mats fs xs ((fitA x (fs.getD i (0,[])) b).getD [])) n).length≤1000000000:=fun n hn=>by
   rw [hLup n hn]
   have hm:=h.lens b
   rw [← hall,hLup _ (Nat.le_refl _),List.take_length,← List.take_append_drop n fs,List.flatMap_append,List.length_append,List.take_append_drop] at hm
   omega
  have hbind:∀ i,i < fs.length→∀ W,Below w.heap.size w W→Calls Tryz.prog 209 #[vb,.agg #[.int .i64 (az 0),.slice (aA 0) (an 0) (ac 0)],.agg #[.int .i64 (fz i),.slice (fA i) (fn i) (fc i)]] W fun e W'=>Below W.heap.size W W'∧∃ h,e=.returned (.tuple #[h,.bool (fitA x (fs.getD i (0,[])) b).isSome])∧((fitA x (fs.getD i (0,[])) b).isSome=true→∃ k,W.heap.size≤k∧ElOk W' h ((fitA x (fs.getD i (0,[])) b).getD []) k):=by
   intro i hi W hW
   obtain ⟨hx,hmem⟩:=getF i hi
   obtain ⟨_,_,hz,rfi⟩:=hF i _ hx
   have st:Stab S w W:=fun k hk=>hW.block k (hS k hk)
   have st':Stab T w W:=fun k hk=>hW.block k (hT k hk)
   exact zpe hc (fun k hk=>Nat.lt_of_lt_of_le (hS k hk) hW.size) (fun k hk=>Nat.lt_of_lt_of_le (hT k hk) hW.size) x _ b hoT (fun e=>h.len x List.mem_cons_self _ hmem e) ho5 hb
    (rb.mono st st' (fun _ h=>h) fun _ h=>h) haz (ra.mono st st' (fun _ h=>h) fun _ h=>h) hz (rfi.mono st st' (fun _ h=>h) fun _ h=>h)
  have fin:∀ {e:Ending} {w':World},(Below w.heap.size w w'∧∃ g cap hds ks,e=.returned (.slice (some ⟨g,0,none⟩) hds.length cap)∧w'.ownsRow w.heap.size 27 1 (.slice (some ⟨g,0,none⟩) hds.length cap) hds.length hds∧RowOk w' hds (Lup (fun i=>(fitA x (fs.getD i (0,[])) b).isSome) (fun i=>mats fs xs ((fitA x (fs.getD i (0,[])) b).getD [])) fs.length) ks∧∀ q∈ks,w.heap.size≤q) →
    (Below w.heap.size w w'∧∃ g cap hds ks,e=.returned (.slice (some ⟨g,0,none⟩) hds.length cap)∧w'.ownsRow w.heap.size 27 1 (.slice (some ⟨g,0,none⟩) hds.length cap) hds.length hds∧RowOk w' hds (mats fs (x::xs) b) ks∧∀ q∈ks,w.heap.size≤q):=by
   intro e w' hh
   rw [hall] at hh
   exact hh
  by_cases hxs:xs=[]
  ·
   subst hxs
   have hrec:∀ (A:Option Addr) (c:Nat) i,i < fs.length→(fitA x (fs.getD i (0,[])) b).isSome=true→∀ W h k,Below w.heap.size w W→w.heap.size≤k→ElOk W h ((fitA x (fs.getD i (0,[])) b).getD []) k→Calls Tryz.prog 183 #[.slice (some ⟨bf,of,none⟩) fs.length capf,.slice A 0 c,h] W fun e W'=>Below W.heap.size W W'∧∃ ad c hds ks,e=.returned (.slice (some ad) hds.length c)∧(∀ j u,hds[j]? = some u→W'.cell? (ad.add j)=some u)∧RowOk W' hds (mats fs [] ((fitA x (fs.getD i (0,[])) b).getD [])) ks∧∀ q∈ks,q=k∨W.heap.size≤q:=by
    intro A c i hi hok W hh k hW hk hel
    have hel':=hel
    obtain ⟨c',cur,rfl,_⟩:=hel'
    refine (Tryz.matchesNil _ A (some ⟨k,0,none⟩) c _ c' W).mono fun e w' ⟨he,hw⟩=>?_
    subst hw
    have hbW:Below W.heap.size W (W.alloc (.cells #[.slice (some ⟨k,0,none⟩) ((fitA x (fs.getD i (0,[])) b).getD []).length c'] 27 (0,0))):=(Below.refl _ W).alloc (Nat.le_refl _) _
    refine ⟨hbW,⟨W.heap.size,0,none⟩,1,[.slice (some ⟨k,0,none⟩) ((fitA x (fs.getD i (0,[])) b).getD []).length c'],[k],he,fun j u hu=>?_,⟨rfl,rfl,by simp,fun j a y q h1 h2 h3=>?_⟩,fun q hq=>.inl (List.mem_singleton.1 hq)⟩
    ·match j,hu with
     | 0,hu=>cases hu;exact zaW W _ _ rfl
     | j+1,hu=>simp at hu
    ·match j,h1,h2,h3 with
     | 0,h1,h2,h3=>cases h1;cases h2;cases h3;exact hel.keep (hbW.block k hel.lt)
     | j+1,h1,_,_=>simp at h1
   by_cases h1:capa=1
   ·subst h1
    refine (Tryz.matchesWalkA bf of fs.length capf ba oa 1 vb (az 0) (aA 0) (an 0) (ac 0) fz fA fn fc _ _ _ w (by omega) (Nat.le_refl _) (by omega) hcf hLn (fun i hi=>(hF i _ (getF i hi).1).1) (fun i hi=>(hF i _ (getF i hi).1).2.1) ha0 ha1 (hS _ hSf) (hS _ hSa) hbind (hrec _ _)).mono fun e w' hh=>fin hh
   ·refine (Tryz.matchesWalkB bf of fs.length capf ba oa 1 capa vb (az 0) (aA 0) (an 0) (ac 0) fz fA fn fc _ _ _ w (by omega) hca h1 (by omega) hcf hLn (fun i hi=>(hF i _ (getF i hi).1).1) (fun i hi=>(hF i _ (getF i hi).1).2.1) ha0 ha1 (hS _ hSf) (hS _ hSa) hbind (hrec _ _)).mono fun e w' hh=>fin hh
  ·have h1:¬ capa=1:=by
    intro e
    subst e
    have:=List.length_pos_iff.2 hxs
    simp only [List.length_cons] at hca
    omega
   have hrec:∀ i,i < fs.length→(fitA x (fs.getD i (0,[])) b).isSome=true→∀ W h k,Below w.heap.size w W→w.heap.size≤k→ElOk W h ((fitA x (fs.getD i (0,[])) b).getD []) k→Calls Tryz.prog 183 #[.slice (some ⟨bf,of,none⟩) fs.length capf,.slice (some ⟨ba,oa+2,none⟩) ((x::xs).length - 1) (capa - 1),h] W fun e W'=>Below W.heap.size W W'∧∃ ad c hds ks,e=.returned (.slice (some ad) hds.length c)∧(∀ j u,hds[j]? = some u→W'.cell? (ad.add j)=some u)∧RowOk W' hds (mats fs xs ((fitA x (fs.getD i (0,[])) b).getD [])) ks∧∀ q∈ks,q=k∨W.heap.size≤q:=by
    intro i hi hok W hh k hW hk hel
    have st:Stab S w W:=fun k hk=>hW.block k (hS k hk)
    have st':Stab T w W:=fun k hk=>hW.block k (hT k hk)
    have hb':((fitA x (fs.getD i (0,[])) b).getD []).length=5:=by
     obtain ⟨b',hb'⟩:=Option.isSome_iff_exists.1 hok
     rw [hb']
     rw [Option.getD_some,zeH hb',hb]
    have rt:RD w S T (.slice (some ⟨ba,oa+2,none⟩) ((x::xs).length - 1) (capa - 1)) (.list 2 (A1 xs)):=by
     have:=RD.cut (a:=1) (b:=(x::xs).length) rx (by simp) (by rw [zq];exact Nat.le_refl _)
     rw [if_neg h1] at this
     have e1:((A1 (x::xs)).drop 1).take ((x::xs).length - 1)=A1 xs:=by
      simp only [A1,List.map_cons,List.drop_succ_cons,List.drop_zero]
      exact List.take_of_length_le (by simp)
     rw [e1] at this
     simpa [Ovi.add_at] using this
    refine (ih hxs W (fun q=>S q∨q=k) T _ _ hh _ (fun q hq=>?_) (fun q hq=>Nat.lt_of_lt_of_le (hT q hq) hW.size) hb' (rf.mono st st' (fun _ h=>.inl h) fun _ h=>h) (rt.mono st st' (fun _ h=>.inl h) fun _ h=>h) (ElOk.rd hel (.inr rfl))).mono fun e w' ⟨hbw,g,cap,hds,ks,he,hown,hrow,hks⟩=>?_
    ·rcases hq with hq | rfl
     ·exact Nat.lt_of_lt_of_le (hS q hq) hW.size
     ·exact hel.lt
    ·obtain ⟨cur,hg,_,_,_,_,hcur⟩:=ziU hown
     refine ⟨hbw,⟨g,0,none⟩,cap,hds,ks,he,fun j u hu=>?_,hrow,fun q hq=>.inr (hks q hq)⟩
     rw [Ovi.add_at]
     simp only [World.cell?, hg,Nat.zero_add]
     exact hcur j u hu
   refine (Tryz.matchesWalkB bf of fs.length capf ba oa (x::xs).length capa vb (az 0) (aA 0) (an 0) (ac 0) fz fA fn fc _ _ _ w (by simp) hca h1 (by omega) hcf hLn (fun i hi=>(hF i _ (getF i hi).1).1) (fun i hi=>(hF i _ (getF i hi).1).2.1) ha0 ha1 (hS _ hSf) (hS _ hSa) hbind hrec).mono fun e w' hh=>fin hh
theorem matC (hc:CloneC Tryz.prog 87 3) {fs:List Atom}:∀ (xs:List Atom),Mok fs xs→xs≠[]→MatC fs xs
 | [],_,h=>absurd rfl h
 | x::xs,h,_=>znE hc h fun hx=>matC hc xs h.tail hx
theorem zbx {L:BL} {i c:Nat} {x:D} (h:zk (LL L) i c=some x):c=0∧∃ y,L[i]? = some y∧x=.list 1 (I1 y):=by
 unfold zk LL at h
 rw [List.getElem?_map] at h
 cases hy:L[i]? with
 | none=>rw [hy] at h;cases h
 | some y =>
  rw [hy] at h
  match c,h with
  | 0,h=>cases h;exact ⟨rfl,y,rfl,rfl⟩
  | c+1,h=>simp at h
theorem zpU (hc:CloneC Tryz.prog 87 3):PrimOk Tryz.prog noG 183 (matP 27) where
 known:=⟨Tryz.f183,Tryz.func183,rfl,by kernel_rfl⟩
 plain:=fun args r hr=>by
  obtain ⟨fs,xs,b,rfl,hm,rfl⟩:=zfD hr
  intro w S T vs hS hT hl _
  obtain ⟨hsz,hl⟩:=hl
  obtain ⟨vf,h0,rf⟩:=hl 0 _ rfl
  obtain ⟨vx,h1,rx⟩:=hl 1 _ rfl
  obtain ⟨vb,h2,rb⟩:=hl 2 _ rfl
  have hvs:vs=#[vf,vx,vb]:=by
   apply Array.ext_getElem?
   intro i
   match i with
   | 0=>exact h0
   | 1=>exact h1
   | 2=>exact h2
   | i+3=>rw [Array.getElem?_eq_none (by rw [hsz];simp [zch]),Array.getElem?_eq_none (by simp)]
  subst hvs
  refine (matC hc xs ⟨hm.f30,hm.x3,hm.ts,hm.len⟩ hm.ne w S T vf vx vb b hS hT hm.b5 rf rx rb).mono fun e w' ⟨hb,g,cap,hds,ks,he,hown,hrow,hks⟩=>?_
  obtain ⟨cur,hg,hBg,hcap,hmax,hcsz,hcur⟩:=ziU hown
  have hlen:hds.length=(LL (mats fs xs b)).length:=by rw [zQ];exact hrow.lh
  have hlk:ks.length=(mats fs xs b).length:=hrow.lk
  have el:∀ (i c:Nat) (x:D),zk (LL (mats fs xs b)) i c=some x→c=0∧∃ y u q,(mats fs xs b)[i]? = some y∧x=.list 1 (I1 y)∧cur[i]? = some u∧ks[i]? = some q∧ElOk w' u y q:=fun i c x hx=>by
   obtain ⟨rfl,y,hy,rfl⟩:=zbx hx
   have hi:=(List.getElem?_eq_some_iff.1 hy).1
   have e1:=List.getElem?_eq_getElem (show i < hds.length by rw [hlen,zQ];exact hi)
   have e2:=List.getElem?_eq_getElem (show i < ks.length by rw [hlk];exact hi)
   exact ⟨rfl,y,_,_,hy,rfl,hcur i _ e1,e2,hrow.el i _ y _ e1 hy e2⟩
  have hgk:g ∉ ks:=fun hm=>by
   obtain ⟨j,hj⟩:=List.mem_iff_getElem?.1 hm
   have hj':=(List.getElem?_eq_some_iff.1 hj).1
   obtain ⟨_,cur',_,h3,_⟩:=hrow.el j _ _ g (List.getElem?_eq_getElem (by rw [hrow.lh,← hlk];exact hj')) (List.getElem?_eq_getElem (by rw [← hlk];exact hj')) hj
   rw [hg] at h3
   cases h3
  refine ⟨_,fun k=>S k∨k∈ks,fun i j=>if i=0∧j=0 then some g else none,he,hb,fun _ h=>.inl h,fun k hk=>?_,⟨⟨[_],rfl,rfl,fun i x hx=>?_⟩,fun i j i' j' q hi hi' _ _=>?_⟩,fun i j a c q=>i=0∧j=0∧c=0∧ks[a]? = some q,fun i j a c q hq=>⟨.inr (List.mem_of_getElem? hq.2.2.2),hks q (List.mem_of_getElem? hq.2.2.2)⟩,fun i j a c i' j' a' c' q hq hq'=>⟨⟨hq.1.trans hq'.1.symm,hq.2.1.trans hq'.2.1.symm⟩,?_,hq.2.2.1.trans hq'.2.2.1.symm⟩,fun i j e sz d ys hlf b' cur' hb' hc' a c x u hx hu=>?_⟩
  ·rcases hk with hk | hk
   ·exact .inl hk
   ·exact .inr ⟨hks k hk,hrow.ks_lt k hk⟩
  ·match i,hx with
   | 0,hx =>
    cases hx
    refine ⟨_,rfl,_,rfl,fun i x hx=>?_,?_,hBg,?_,cur,hg,?_,fun i c x hx=>?_⟩
    ·unfold LL at hx
     rw [List.getElem?_map] at hx
     cases hy:(mats fs xs b)[i]? with
     | none=>rw [hy] at hx;cases hx
     | some y=>rw [hy] at hx;cases hx;rfl
    ·exact ⟨cap,cur,by rw [hlen],hg,by rw [← hlen];exact hcap,hmax,by rw [hcsz,Nat.mul_one]⟩
    ·rintro (hk | hk)
     ·have:=hS g hk
      omega
     ·exact hgk hk
    ·rw [hcsz,Nat.mul_one,← hlen];exact hcap
    ·obtain ⟨rfl,y,u,q,hy,rfl,hu,hq,hel⟩:=el i c x hx
     exact ⟨rfl,u,by simpa using hu,ElOk.rd hel (.inr (List.mem_of_getElem? hq))⟩
   | i+1,hx=>simp at hx
  ·have key:∀ i j,zZ (zR [(false,[RL.frow 27 1 1 (LL (mats fs xs b))])] i j)=true→i=0∧j=0:=fun i j h=>by
    match i,j,h with
    | 0,0,_=>exact ⟨rfl,rfl⟩
    | 0,j+1,h=>simp [zR,zZ] at h
    | i+1,j,h=>simp [zR,zZ] at h
   obtain ⟨rfl,rfl⟩:=key i j hi
   obtain ⟨rfl,rfl⟩:=key i' j' hi'
   exact ⟨rfl,rfl⟩
  ·have h1:=hq.2.2.2
   have h2:=hq'.2.2.2
   have ha:=(List.getElem?_eq_some_iff.1 h1).1
   have ha':=(List.getElem?_eq_some_iff.1 h2).1
   exact (List.getElem?_inj ha hrow.nd).1 (h1.trans h2.symm)
  ·match i,j,hlf with
   | 0,0,hlf =>
    cases hlf
    have hb':some g=some b':=hb'
    cases hb'
    rw [hg] at hc'
    cases hc'
    obtain ⟨rfl,y,u',q,hy,rfl,hu',hq,hel⟩:=el a c x hx
    rw [Nat.mul_one,Nat.add_zero,hu'] at hu
    cases hu
    obtain ⟨c',cur',rfl,k1,k2,k3,k4,k5⟩:=hel
    refine .inr ⟨q,c',cur',3,fun _ _ _=>False,by rw [zn],k1,by rw [zn];exact k2,k3,by rw [k4,Nat.mul_one],⟨rfl,rfl,rfl,hq⟩,fun _ _ _ h=>h.elim,fun _ _ _ _ _ h=>h.elim,fun i c y' hy'=>?_⟩
    have hi:i < y.length:=by
     obtain ⟨r,hr,_⟩:=zav hy'
     have:=(List.getElem?_eq_some_iff.1 hr).1
     rwa [zn] at this
    have hz:=zjG (List.getElem?_eq_getElem hi)
    have hc0:c=0:=by
     unfold zk at hy'
     rw [I1_get' (List.getElem?_eq_getElem hi)] at hy'
     match c,hy' with
     | 0,_=>rfl
     | c+1,hy'=>simp at hy'
    subst hc0
    exact ⟨_,by simpa using k5 i _ (List.getElem?_eq_getElem hi),True.intro⟩
   | 0,j+1,hlf=>simp [zR] at hlf
   | i+1,j,hlf=>simp [zR] at hlf
 raw:=fun k e sz xs rest r hr e' he=>by
  obtain ⟨_,_,_,h,_⟩:=zfD hr
  cases h
 mark:=fun b k xs r hr=>by
  obtain ⟨_,_,_,h,_⟩:=zfD hr
  cases h
end Go.Proofs.YtiacahdabflcdaaGreat.Q

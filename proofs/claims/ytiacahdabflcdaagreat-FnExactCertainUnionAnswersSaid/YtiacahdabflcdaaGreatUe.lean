/-
Towards the law: a machine that runs the program's own code on plain data, its soundness, the library by its contracts, and what the functions compute: part 5. No condition.
-/
import Derived.Test.YtiacahdabflcdaaGreatUd
set_option linter.unusedVariables false
set_option linter.unusedSimpArgs false
namespace Go.Proofs.YtiacahdabflcdaaGreat.Q
open Go Ovi
variable {k:Nat}
noncomputable def vB (xs:List Atom) (z:Int):Bool:=@decide (zZ xs z) (Classical.propDecidable _)
theorem zcB {xs:List Atom} {vs:List Int} (h:∀ z,z∈vs↔zZ xs z) (z:Int):decide (z∈vs)=vB xs z:=by
 unfold vB
 rw [Bool.eq_iff_iff]
 simp [h z]
def zco (a:Ovi.Rows) (xs:List Atom) (valid:Atom→Bool):Prop:=∀ x∈xs,∀ k,a.length < k→x.2.length < k→C (k+5) 179 [.d (.list 3 a),.agg [.d (.int .i64 x.1),.d (.list 1 (I1 x.2))]]=bo (valid x)∧C (k+5) 155 [.d (.list 3 a),.agg [.d (.int .i64 x.1),.d (.list 1 (I1 x.2))]]=bo (valid x)
theorem zfg {a:Ovi.Rows} (ha:Fit Rl (.list 3 a)) (xs:List Atom) (hx:∀ x∈xs,x.2.length≤maxLen):∃ valid:Atom→Bool,(∀ x∈xs,valid x=true→(0≤x.1∧x.1 < (a.length:Int))∧(x.2.length:Int)=ar a x.1∧∀ t∈x.2, -10≤t∧t≤4)∧zco a xs valid:=by
 have:∀ x:Atom,∃ b,x∈xs→(b=true→(0≤x.1∧x.1 < (a.length:Int))∧(x.2.length:Int)=ar a x.1∧∀ t∈x.2, -10≤t∧t≤4)∧∀ k,a.length < k→x.2.length < k→C (k+5) 179 [.d (.list 3 a),.agg [.d (.int .i64 x.1),.d (.list 1 (I1 x.2))]]=bo b∧C (k+5) 155 [.d (.list 3 a),.agg [.d (.int .i64 x.1),.d (.list 1 (I1 x.2))]]=bo b:=by
  intro x
  by_cases h:x∈xs
  ·obtain ⟨b,hb⟩:=atoms ha x (hx x h)
   exact ⟨b,fun _=>hb⟩
  ·exact ⟨false,fun h'=>absurd h' h⟩
 obtain ⟨valid,hv⟩:=Classical.axiomOfChoice this
 exact ⟨valid,fun x hx=>(hv x hx).1,fun x hx=>(hv x hx).2⟩
noncomputable def qOk (valid:Atom→Bool) (xs:List Atom) (out:List Int):Bool:=(decide ((1:Int)≤(xs.length:Int)∧(xs.length:Int)≤3)&&xs.all valid)&&(decide ((out.length:Int)≤3)&&out.all (vB xs))
theorem zab {xs:List Atom} {x:Atom} (h:x∈xs):x.2.length≤zC xs:=by
 induction xs with
 | nil=>cases h
 | cons y ys ih =>
  have e:zC (y::ys)=y.2.length+zC ys:=by simp [zC]
  rw [e]
  rcases List.mem_cons.1 h with rfl | h
  ·omega
  ·have:=ih h;omega
theorem zbv {α:Type} (l:List α) (p:α→Bool):(!(l.any fun x=>!p x))=l.all p:=by
 induction l with
 | nil=>rfl
 | cons x l ih=>rw [List.any_cons,List.all_cons,← ih];cases p x<;>simp
theorem c109 {a:Ovi.Rows} {xs:List Atom} {out:List Int} {valid:Atom→Bool} (hv:zco a xs valid) (hk:2000000≤k) (ha:a.length≤1048576) (hs:zC xs+xs.length≤1048576) (ho:out.length≤1048576) :
  C (k+10) 109 [.d (.list 3 a),.agg [.d (.list 1 (I1 out)),.d (.list 2 (A1 xs))]]=bo (qOk valid xs out):=by
 have hmax:(1048576:Nat)≤maxLen:=by decide
 obtain ⟨vs,e,hm,hl⟩:=c137 (k:=k+8) xs (by omega) hs
 rw [F109.run,e]
 simp only [zi,zu,zf]
 have e68:C (k+9) 136 [.d (.list 3 a),.d (.list 2 (A1 xs)),.d (.int .i64 3)]=bo (decide ((1:Int)≤(xs.length:Int)∧(xs.length:Int)≤3)&&xs.all valid):=by
  rw [F136.run,c128,bB,zo]
  cases decide ((1:Int)≤(xs.length:Int)∧(xs.length:Int)≤3) with
  | false=>rfl
  | true =>
   rw [ite'_t rfl,c139 (k:=k+6) xs 178 [[.list 3 a]] (fun x=>!valid x) (by omega) (by omega) (fun x hx=>by
    have:=zab hx
    rw [List.map_cons,List.map_nil,F178.run,(hv x hx k (by omega) (by omega)).1,bB];rfl),bB]
   exact zas (zbv xs valid)
 rw [e68,bB,zl]
 unfold qOk
 cases (decide ((1:Int)≤(xs.length:Int)∧(xs.length:Int)≤3)&&xs.all valid) with
 | false=>rfl
 | true =>
  rw [ite'_t rfl]
  by_cases h3:(out.length:Int)≤3
  ·rw [ite'_t (by simpa using h3),c129 (k:=k+7) out 162 [[.list 1 (I1 vs)]] (fun z=>!vB xs z) (by omega) (by omega) (fun z hz=>by
    rw [List.map_cons,List.map_nil,F162.run,c138 (k:=k+4) vs z (by omega) (by omega),bB,zcB hm];rfl),bB,decide_eq_true h3]
   exact zas (zbv out (vB xs))
  ·rw [ite'_f (by simpa using h3),decide_eq_false h3]
   rfl
theorem c101 {a:Ovi.Rows} {xs:List Atom} {out:List Int} {valid:Atom→Bool} (hv:zco a xs valid) (hk:2000000≤k) (ha:a.length≤1048576) (hs:zC xs+xs.length≤1048576) (ho:out.length≤1048576) :
  C (k+10) 101 [.d (.list 3 a),.agg [.d (.list 1 (I1 out)),.d (.list 2 (A1 xs))]]=bo (qOk valid xs out):=by
 have hmax:(1048576:Nat)≤maxLen:=by decide
 obtain ⟨vs,e,hm,hl⟩:=c154 (k:=k+7) xs (by omega) hs
 rw [F101.run,e]
 simp only [zi,zbB,zf]
 have l9:F101.L8 (k+9) (C (k+9)) (k+9) (I1 vs) 0 (I1 out) (A1 xs)=cond (out.any fun z=>!vB xs z) (bo false) (bo (decide ((1:Int)≤(xs.length:Int)∧(xs.length:Int)≤3)&&decide ((out.length:Int)≤3))) :=
  zbd (xs:=out) (L:=fun n i=>F101.L8 (k+9) (C (k+9)) n (I1 vs) i (I1 out) (A1 xs)) (stop:=fun z=>!vB xs z)
   (fun n i z hz=>by
    have hi:=(List.getElem?_eq_some_iff.1 hz).1
    rw [F101.L8.succ,zl,ite'_t (lt_t hi),ite'_t (zn hi)]
    simp only [Int.toNat_natCast,zG (I1_get' hz),List.getElem?_cons_zero,Option.bind_some,zy,zd]
    rw [c156 (k:=k+8) vs z (by omega) (by omega),bB,zcB hm,zz hi (m:=out.length) (by omega)];rfl)
   (fun n=>by
    rw [F101.L8.succ,zl,ite'_f (lt_f (by omega)),c157,bB,zo]
    cases decide ((1:Int)≤(xs.length:Int)∧(xs.length:Int)≤3)<;>rfl) (k+9) (by omega)
 have l3:F101.L3 (k+9) (C (k+9)) (k+9) a (I1 vs) 0 (I1 out) (A1 xs)=cond (xs.any fun x=>!valid x) (bo false) (F101.L8 (k+9) (C (k+9)) (k+9) (I1 vs) 0 (I1 out) (A1 xs)) :=
  zbd (xs:=xs) (L:=fun n i=>F101.L3 (k+9) (C (k+9)) n a (I1 vs) i (I1 out) (A1 xs)) (stop:=fun x=>!valid x)
   (fun n i x hx=>by
    have hi:=(List.getElem?_eq_some_iff.1 hx).1
    have:=zab (List.mem_of_getElem? hx)
    rw [F101.L3.succ,zo,ite'_t (lt_t hi),ite'_t (zn hi)]
    simp only [Int.toNat_natCast,zG (zaF hx),zV (zaF hx),List.getElem?_cons_zero,List.getElem?_cons_succ,Option.bind_some,zy,zJ,zd,zf]
    rw [(hv x (List.mem_of_getElem? hx) (k+4) (by omega) (by omega)).2,bB,zz hi (m:=xs.length) (by omega)];rfl)
   (fun n=>by rw [F101.L3.succ,zo,ite'_f (lt_f (by omega))]) (k+9) (by omega)
 rw [l3,l9]
 unfold qOk
 rw [← zbv xs valid,← zbv out (vB xs)]
 cases (xs.any fun x=>!valid x)<;>cases (out.any fun z=>!vB xs z)<;>cases decide ((1:Int)≤(xs.length:Int)∧(xs.length:Int)≤3)<;>cases decide ((out.length:Int)≤3)<;>rfl
def At:Ty:=.list [.int .i64,.list [.int .i64]]
theorem zcG {xs:List Atom}:szD (.list 2 (A1 xs))=xs.length+zC xs:=by
 simp only [szD,zo,zo8]
 rfl
theorem ziL {zs:List Int}:szD (.list 1 (I1 zs))=zs.length:=by simp only [szD,zl,zij,Nat.add_zero]
theorem zof {a:Ovi.Rows}:a.length≤szD (.list 3 a):=by simp only [szD];omega
end Go.Proofs.YtiacahdabflcdaaGreat.Q
namespace Go.Proofs.YtiacahdabflcdaaGreat.Q
open Go Ovi
variable {k:Nat}
def isN (v:Int):Bool:=decide (-40≤v∧v ≤ -1)
def okV (v:Int):Bool:=decide (-40≤v∧v≤9)
def nn (v:Int):Option Res:=some [(false,[.d (.int .i64 (if isN v then -1 - v else 0))]),(false,[.d (.bool (isN v))])]
theorem nnB (v:Int) (f:Int→Bool→Option Res):(za (nn v) fun r=>zg (resI .i64 2 false 1 r 0 0) fun n=>zj (resB 2 false 1 r 1 0) fun b=>f n b)=f (if isN v then -1 - v else 0) (isN v):=rfl
theorem zgl {v:Int} (h:isN v=true) : -40≤v∧v ≤ -1:=of_decide_eq_true h
theorem zjA {v:Int} (h:isN v=false):¬ (-40≤v∧v ≤ -1):=of_decide_eq_false h
theorem znG {v:Int} (h:inI v):IntKind.i64.wrap (-1 - v) = -1 - v:=by unfold inI at h;exact zae (by omega) (by omega)
theorem c119 {v:Int} (h:inI v):C (k+2) 119 [.d (.int .i64 v)]=nn v:=by
 rw [F119.run]
 by_cases h0:v ≥ 0
 ·rw [ite'_t (by simpa using h0)]
  have:isN v=false:=decide_eq_false (by omega)
  simp [nn,this]
 ·rw [ite'_f (by simpa using h0),znG h,c157,bB]
  by_cases h1:isN v=true
  ·have:=zgl h1
   rw [decide_eq_true (by omega),ite'_nt]
   simp [nn,h1]
  ·have h1:isN v=false:=by simpa using h1
   have:=zjA h1
   rw [decide_eq_false (by omega),ite'_nf]
   simp [nn,h1]
theorem c146 {v:Int} (h:inI v):C (k+2) 146 [.d (.int .i64 v)]=nn v:=by
 rw [F146.run,znG h,c128,bB]
 by_cases h1:isN v=true
 ·have:=zgl h1
  rw [decide_eq_true (by omega),ite'_nt]
  simp [nn,h1]
 ·have h1:isN v=false:=by simpa using h1
  have:=zjA h1
  rw [decide_eq_false (by omega),ite'_nf]
  simp [nn,h1]
theorem c159 {v:Int} (h:inI v):C (k+3) 159 [.d (.int .i64 v)]=bo (okV v):=by
 rw [F159.run,c119 h,nnB]
 by_cases h1:isN v=true
 ·have:=zgl h1
  rw [ite'_t h1]
  exact zas (b:=true) (by rw [okV,decide_eq_true (by omega)])
 ·have h1:isN v=false:=by simpa using h1
  have:=zjA h1
  rw [ite'_f h1,c157,bB]
  refine zas ?_
  unfold okV
  rw [Bool.eq_iff_iff]
  simp only [decide_eq_true_eq]
  omega
theorem c131 (v:Int):C (k+2) 131 [.d (.int .i64 v)]=bo (okV v):=by
 rw [F131.run,c128,bB];rfl
def zah (zs:List Int):List Int:=Lib.compact (zN ((zs.filter isN).map fun v => -1 - v))
theorem zkp (zs:List Int):SS (zah zs):=zfd _
theorem zcl (zs:List Int) (n:Int):n∈zah zs↔∃ v∈zs,isN v=true∧n = -1 - v:=by
 unfold zah
 rw [zcK,zct]
 simp only [List.mem_map,List.mem_filter]
 constructor
 ·rintro ⟨v,⟨h1,h2⟩,rfl⟩;exact ⟨v,h1,h2,rfl⟩
 ·rintro ⟨v,h1,h2,rfl⟩;exact ⟨v,⟨h1,h2⟩,rfl⟩
theorem zi7 (zs:List Int):(zah zs).length≤zs.length:=by
 unfold zah
 have h1:=zcH (zN ((zs.filter isN).map fun v => -1 - v))
 have h2:(zN ((zs.filter isN).map fun v => -1 - v)).length=(zs.filter isN).length:=by simp [zN]
 have h3:=List.length_filter_le isN zs
 omega
theorem c134 (zs:List Int) (hI:∀ z∈zs,inI z) (hk:zs.length < k) (hz:zs.length≤1048576):C (k+3) 134 [.d (.list 1 (I1 zs))]=some [(false,[.row 3 1 (I1 (zah zs))])]:=by
 rw [F134.run,zl]
 have hmax:(1048576:Nat)≤maxLen:=by decide
 have main:∀ (m i n:Nat),i+m=zs.length→m < n→F134.L3 (k+2) (C (k+2)) n (I1 zs) (zs.length:Int) (i:Int) (I1 (((zs.take i).filter isN).map fun v => -1 - v))=some [(false,[.row 3 1 (I1 (zah zs))])]:=by
  intro m
  induction m with
  | zero =>
   intro i n hm hn
   obtain ⟨n,rfl⟩:∃ j,n=j+1:=⟨n - 1,by omega⟩
   obtain rfl:i=zs.length:=by omega
   rw [List.take_length]
   have hf:=List.length_filter_le isN zs
   generalize hacc:(zs.filter isN).map (fun v => -1 - v)=acc
   have hal:acc.length≤zs.length:=by rw [← hacc];simpa using hf
   have e1:C (k+2) 176 [.var 0 0,.d (.int .i64 3),.d (.list 1 (I1 acc))]=some [(false,[.row 3 1 (I1 (zN acc))])]:=by
    show zcA _=_
    unfold zcA zbN
    simp only [za6]
    rw [show Nat.ble acc.length 1099511627776=true from Nat.ble_eq_true_of_le (by omega)]
    rfl
   have hsl:(zN acc).length=acc.length:=by simp [zN]
   have e2:C (k+2) 177 [.var 0 0,.d (.int .i64 3),.d (.list 1 (I1 (zN acc)))]=some [(false,[.row 3 1 (I1 (Lib.compact (zN acc)))]),(true,[])]:=by
    show zba _=_
    unfold zba zbN
    simp only [za6]
    rw [show Nat.ble (zN acc).length 1099511627776=true from Nat.ble_eq_true_of_le (by omega)]
    rfl
   rw [F134.L3.succ,ite'_f (lt_f (by omega)),e1]
   simp only [zi,zu,zf]
   rw [e2]
   unfold zah
   rw [hacc]
   rfl
  | succ m ih =>
   intro i n hm hn
   obtain ⟨n,rfl⟩:∃ j,n=j+1:=⟨n - 1,by omega⟩
   have hi:i < zs.length:=by omega
   have hx:=List.getElem?_eq_getElem hi
   have hft:=List.length_filter_le isN (zs.take i)
   rw [F134.L3.succ,zl,ite'_t (lt_t hi),ite'_t (zn hi)]
   simp only [Int.toNat_natCast,zG (I1_get' hx),List.getElem?_cons_zero,Option.bind_some,zy,zd]
   rw [c146 (hI _ (List.getElem_mem hi)),nnB,zz hi (m:=zs.length) (by omega)]
   have hstep:(zs.take (i+1)).filter isN=(zs.take i).filter isN++(if isN zs[i] then [zs[i]] else []):=by
    rw [List.take_succ_eq_append_getElem hi,List.filter_append]
    cases h:isN zs[i]<;>simp [h]
   have:=ih (i+1) n (by omega) (by omega)
   rw [hstep] at this
   cases h:isN zs[i] with
   | true =>
    rw [ite'_t rfl,ite'_t (zQ (by simp [zl] at hft ⊢;omega))]
    rw [h] at this
    simp only [if_true,List.map_append,List.map_cons,List.map_nil] at this ⊢
    rw [← this]
    simp [I1]
   | false =>
    rw [ite'_f rfl]
    rw [h] at this
    simpa using this
 exact main zs.length 0 (k+2) (by omega) (by omega)
theorem zlt (zs:List Int) (v:Int) (hS:SS zs) (hk:zs.length < k) (hz:zs.length≤1048576):∃ r ws,C (k+1) 160 [.d (.list 1 (I1 zs)),.d (.int .i64 v)]=some r∧resL 1 1 false 1 r 0 0=some (I1 ws)∧(∀ z,z∈ws↔z∈zs∨z=v)∧ws.length≤zs.length+1∧SS ws:=by
 rw [F160.run]
 have hmax:(1048576:Nat)≤maxLen:=by decide
 have ins:∀ i:Nat,i≤zs.length→(∀ (j:Nat) y,j < i→zs[j]? = some y→y < v)→(∀ y,zs[i]? = some y→v < y)→∃ r ws,(ite' (inS (i:Int) ((I1 zs).length:Int) (I1 zs).length) (ite' (fits (([[D.int .i64 v]]:Ovi.Rows).length+((I1 zs).drop (i:Int).toNat).length)) (ite' (inS (0:Int) (i:Int) (I1 zs).length) (ite' (fits ((I1 zs).take (i:Int).toNat).length) (ite' (fits (((I1 zs).take (i:Int).toNat).length+List.length ([[D.int .i64 v]]++(I1 zs).drop (i:Int).toNat))) (some ([(false,[RL.row 3 1 ((I1 zs).take (i:Int).toNat++([[D.int .i64 v]]++(I1 zs).drop (i:Int).toNat))])]:Res)) none) none) none) none) none)=some r∧resL 1 1 false 1 r 0 0=some (I1 ws)∧(∀ z,z∈ws↔z∈zs∨z=v)∧ws.length≤zs.length+1∧SS ws:=by
  intro i hi hlt hgt
  rw [zl,ite'_t (by simp [inS];omega),ite'_t (zQ (by simp [zl];omega)),ite'_t (by simp [inS];omega),ite'_t (zQ (by simp [zl];omega)),ite'_t (zQ (by simp [zl];omega))]
  refine ⟨_,zs.take i++v::zs.drop i,rfl,?_,fun z=>?_,by simp;omega,?_⟩
  ·rw [zh1]
   simp [I1]
  ·have:z∈zs↔z∈zs.take i∨z∈zs.drop i:=by rw [← List.mem_append,List.take_append_drop]
   rw [this,List.mem_append,List.mem_cons]
   constructor
   ·rintro (h | h | h)
    ·exact .inl (.inl h)
    ·exact .inr h
    ·exact .inl (.inr h)
   ·rintro ((h | h) | h)
    ·exact .inl h
    ·exact .inr (.inr h)
    ·exact .inr (.inl h)
  ·have hd:∀ y∈zs.drop i,v < y:=by
    intro y hy
    obtain ⟨j,hj⟩:=List.mem_iff_getElem?.1 hy
    rw [List.getElem?_drop] at hj
    have hil:i < zs.length:=by have:=(List.getElem?_eq_some_iff.1 hj).1;omega
    have h0:=hgt zs[i] (List.getElem?_eq_getElem hil)
    rcases Nat.eq_zero_or_pos j with rfl | hjp
    ·rw [Nat.add_zero,List.getElem?_eq_getElem hil] at hj;cases hj;exact h0
    ·obtain ⟨hjl,e⟩:=List.getElem?_eq_some_iff.1 hj
     have:=List.pairwise_iff_getElem.1 hS i (i+j) hil hjl (by omega)
     omega
   have ht:∀ y∈zs.take i,y < v:=by
    intro y hy
    obtain ⟨j,hj⟩:=List.mem_iff_getElem?.1 hy
    obtain ⟨hjl,e⟩:=List.getElem?_eq_some_iff.1 hj
    simp only [List.length_take] at hjl
    rw [List.getElem?_take_of_lt (by omega)] at hj
    exact hlt j y (by omega) hj
   refine List.pairwise_append.2 ⟨hS.sublist (List.take_sublist _ _),List.pairwise_cons.2 ⟨hd,hS.sublist (List.drop_sublist _ _)⟩,fun x hx y hy=>?_⟩
   have:=ht x hx
   rcases List.mem_cons.1 hy with rfl | hy
   ·exact this
   ·have:=hd y hy;omega
 have main:∀ (m i n:Nat),i+m=zs.length→m < n→(∀ (j:Nat) y,j < i→zs[j]? = some y→y < v)→∃ r ws,F160.L2 k (C k) n (I1 zs) v (i:Int)=some r∧resL 1 1 false 1 r 0 0=some (I1 ws)∧(∀ z,z∈ws↔z∈zs∨z=v)∧ws.length≤zs.length+1∧SS ws:=by
  intro m
  induction m with
  | zero =>
   intro i n hm hn hlt
   obtain ⟨n,rfl⟩:∃ j,n=j+1:=⟨n - 1,by omega⟩
   obtain ⟨r,ws,h1,h2⟩:=ins i (by omega) hlt (fun y hy=>by have:=(List.getElem?_eq_some_iff.1 hy).1;omega)
   refine ⟨r,ws,?_,h2⟩
   rw [F160.L2.succ]
   rw [ite'_f (b:=decide ((i:Int) < ((I1 zs).length:Int))) (by rw [zl];exact lt_f (by omega))]
   rw [ite'_f (b:=decide ((i:Int) < ((I1 zs).length:Int))) (by rw [zl];exact lt_f (by omega))]
   exact h1
  | succ m ih =>
   intro i n hm hn hlt0
   obtain ⟨n,rfl⟩:∃ j,n=j+1:=⟨n - 1,by omega⟩
   have hi:i < zs.length:=by omega
   have hx:=List.getElem?_eq_getElem hi
   rw [F160.L2.succ]
   rw [ite'_t (b:=decide ((i:Int) < ((I1 zs).length:Int))) (by rw [zl];exact lt_t hi)]
   rw [ite'_t (b:=inR (i:Int) (I1 zs).length) (by rw [zl];exact zn hi)]
   rw [show zm .i64 (I1 zs) (i:Int).toNat 0=some zs[i] by rw [Int.toNat_natCast,zG (I1_get' hx)];rfl]
   simp only [zd]
   by_cases hlt:zs[i] < v
   ·rw [ite'_t (by simpa using hlt),zz hi (m:=zs.length) (by omega)]
    refine ih (i+1) n (by omega) (by omega) (fun j y hj hy=>?_)
    by_cases hji:j=i
    ·subst hji;rw [hx] at hy;cases hy;exact hlt
    ·exact hlt0 j y (by omega) hy
   ·rw [ite'_f (b:=decide (zs[i] < v)) (by simpa using hlt)]
    rw [ite'_t (b:=decide ((i:Int) < ((I1 zs).length:Int))) (by rw [zl];exact lt_t hi)]
    rw [ite'_t (b:=inR (i:Int) (I1 zs).length) (by rw [zl];exact zn hi)]
    by_cases heq:zs[i]=v
    ·rw [ite'_t (b:=zs[i]==v) (by simpa using heq)]
     refine ⟨_,zs,rfl,zbB _ _,fun z=>⟨.inl,?_⟩,by omega,hS⟩
     rintro (h | h)
     ·exact h
     ·rw [h,← heq];exact List.getElem_mem hi
    ·rw [ite'_f (b:=zs[i]==v) (by simpa using heq)]
     obtain ⟨r,ws,h1,h2⟩:=ins i (by omega) hlt0 (fun y hy=>by rw [hx] at hy;cases hy;omega)
     exact ⟨r,ws,h1,h2⟩
 have:=main zs.length 0 k (by omega) (by omega) (fun j y hj=>by omega)
 exact this
theorem c106 (r:Int) (zs:List Int) (hI:∀ z∈zs,inI z) (hk:zs.length < k) (hz:zs.length≤1048576):C (k+3) 106 [.agg [.d (.int .i64 r),.d (.list 1 (I1 zs))]]=some [(false,[.d (.list 1 (I1 (zah zs)))])]:=by
 rw [F106.run]
 have hmax:(1048576:Nat)≤maxLen:=by decide
 have main:∀ (m i n:Nat) (acc:List Int),i+m=zs.length→m < n→SS acc→acc.length≤i→(∀ z,z∈acc↔∃ v∈zs.take i,isN v=true∧z = -1 - v)→F106.L3 (k+2) (C (k+2)) n (I1 acc) (i:Int) r (I1 zs)=some [(false,[.d (.list 1 (I1 (zah zs)))])]:=by
  intro m
  induction m with
  | zero =>
   intro i n acc hm hn hS hl hmem
   obtain ⟨n,rfl⟩:∃ j,n=j+1:=⟨n - 1,by omega⟩
   obtain rfl:i=zs.length:=by omega
   rw [List.take_length] at hmem
   rw [F106.L3.succ,zl,ite'_f (lt_f (by omega)),zif hS (zkp zs) (fun z=>by rw [hmem z,zcl])]
  | succ m ih =>
   intro i n acc hm hn hS hl hmem
   obtain ⟨n,rfl⟩:∃ j,n=j+1:=⟨n - 1,by omega⟩
   have hi:i < zs.length:=by omega
   have hx:=List.getElem?_eq_getElem hi
   have htk:∀ z,z∈zs.take (i+1)↔z∈zs.take i∨z=zs[i]:=by
    intro z
    rw [List.take_succ_eq_append_getElem hi]
    simp only [List.mem_append,List.mem_singleton]
   rw [F106.L3.succ,zl,ite'_t (lt_t hi),ite'_t (zn hi)]
   simp only [Int.toNat_natCast,zG (I1_get' hx),List.getElem?_cons_zero,Option.bind_some,zy,zd]
   rw [c119 (hI _ (List.getElem_mem hi)),nnB,zz hi (m:=zs.length) (by omega)]
   cases h:isN zs[i] with
   | true =>
    obtain ⟨r',ws,e1,e2,e3,e4,e5⟩:=zlt (k:=k+1) acc (-1 - zs[i]) hS (by omega) (by omega)
    rw [ite'_t rfl]
    simp only [if_true]
    rw [e1]
    simp only [zi]
    rw [e2,zf]
    refine ih (i+1) n ws (by omega) (by omega) e5 (by omega) (fun z=>?_)
    rw [e3 z,hmem z]
    constructor
    ·rintro (⟨v,h1,h2⟩ | h1)
     ·exact ⟨v,(htk v).2 (.inl h1),h2⟩
     ·exact ⟨zs[i],(htk _).2 (.inr rfl),h,h1⟩
    ·rintro ⟨v,h1,h2⟩
     rcases (htk v).1 h1 with h1 | rfl
     ·exact .inl ⟨v,h1,h2⟩
     ·exact .inr h2.2
   | false =>
    rw [ite'_f rfl]
    refine ih (i+1) n acc (by omega) (by omega) hS (by omega) (fun z=>?_)
    rw [hmem z]
    constructor
    ·rintro ⟨v,h1,h2⟩
     exact ⟨v,(htk v).2 (.inl h1),h2⟩
    ·rintro ⟨v,h1,h2⟩
     rcases (htk v).1 h1 with h1 | rfl
     ·exact ⟨v,h1,h2⟩
     ·rw [h] at h2;cases h2.1
 exact main zs.length 0 (k+2) [] (by omega) (by omega) (by simp [SS]) (by simp) (fun z=>by simp)
theorem c78 (r:Int) (zs:List Int) (hI:∀ z∈zs,inI z) (hk:zs.length < k) (hz:zs.length≤1048576):C (k+4) 78 [.agg [.d (.int .i64 r),.d (.list 1 (I1 zs))]]=some [(false,[.row 3 1 (I1 (zah zs))])]:=by
 rw [F78.run,c134 zs hI hk hz]
 rfl
end Go.Proofs.YtiacahdabflcdaaGreat.Q
namespace Go.Proofs.YtiacahdabflcdaaGreat.Q
open Go Ovi
variable {k:Nat}
def cmpI:List Int→List Int→Int
 | [],[]=>0
 | [],_::_ => -1
 | _::_,[]=>1
 | x::xs,y::ys=>if x < y then -1 else if x > y then 1 else cmpI xs ys
def io (n:Int):Option Res:=some [(false,[.d (.int .i64 n)])]
theorem iB' (n:Int) (f:Int→Option Res):(za (io n) fun r=>zg (resI .i64 1 false 1 r 0 0) f)=f n:=rfl
def cmp1 (x y:Int):Int:=if x < y then -1 else if x > y then 1 else 0
theorem c133 (x y:Int):C (k+2) 133 [.d (.int .i64 x),.d (.int .i64 y)]=io (cmp1 x y):=by
 rw [F133.run,F175.run,F175.run]
 simp only [bne_self_eq_false,zi,zH,zt]
 rw [ite'_f rfl,ite'_f rfl]
 unfold cmp1
 by_cases h:x < y
 ·rw [ite'_t (by simpa using h),if_pos h];rfl
 ·rw [ite'_f (by simpa using h),if_neg h]
  by_cases h':x > y
  ·rw [ite'_t (by simpa using h'),if_pos h'];rfl
  ·rw [ite'_f (by simpa using h'),if_neg h'];rfl
theorem ziR {a b:List Int} {i:Nat} (ha:i < a.length) (hb:i < b.length):cmpI (a.drop i) (b.drop i)=if a[i] < b[i] then -1 else if a[i] > b[i] then 1 else cmpI (a.drop (i+1)) (b.drop (i+1)):=by
 rw [List.drop_eq_getElem_cons ha,List.drop_eq_getElem_cons hb]
 rfl
theorem c112 (a b:List Int) (hk:a.length < k) (ha:a.length≤maxLen):C (k+3) 112 [.d (.list 1 (I1 a)),.d (.list 1 (I1 b))]=io (cmpI a b):=by
 rw [F112.run,zl]
 have main:∀ (m i n:Nat),i+m=a.length→m < n→i≤b.length→F112.L2 (k+2) (C (k+2)) n (I1 a) (I1 b) (I1 a) (a.length:Int) (i:Int)=io (cmpI (a.drop i) (b.drop i)):=by
  intro m
  induction m with
  | zero =>
   intro i n hm hn hb
   obtain ⟨n,rfl⟩:∃ j,n=j+1:=⟨n - 1,by omega⟩
   obtain rfl:i=a.length:=by omega
   rw [F112.L2.succ,ite'_f (lt_f (by omega)),zl,zl,List.drop_eq_nil_of_le (Nat.le_refl _)]
   by_cases h:a.length < b.length
   ·rw [ite'_t (lt_t h),List.drop_eq_getElem_cons h];rfl
   ·rw [ite'_f (lt_f h),List.drop_eq_nil_of_le (by omega)];rfl
  | succ m ih =>
   intro i n hm hn hb
   obtain ⟨n,rfl⟩:∃ j,n=j+1:=⟨n - 1,by omega⟩
   have hi:i < a.length:=by omega
   have hx:=List.getElem?_eq_getElem hi
   rw [F112.L2.succ,ite'_t (lt_t hi),zl,ite'_t (zn hi)]
   simp only [Int.toNat_natCast,zG (I1_get' hx),List.getElem?_cons_zero,Option.bind_some,zy,zd]
   rw [zl]
   by_cases h:i < b.length
   ·have hy:=List.getElem?_eq_getElem h
    rw [ite'_f (b:=decide ((i:Int) ≥ (b.length:Int))) (by simp;omega),ite'_t (zn h)]
    simp only [zG (I1_get' hy),List.getElem?_cons_zero,Option.bind_some,zy,zd]
    rw [c133,iB',ziR hi h,zz hi ha,ih (i+1) n (by omega) (by omega) (by omega)]
    unfold cmp1
    by_cases h1:a[i] < b[i]
    ·rw [if_pos h1,if_pos h1];rfl
    ·rw [if_neg h1,if_neg h1]
     by_cases h2:a[i] > b[i]
     ·rw [if_pos h2,if_pos h2];rfl
     ·rw [if_neg h2,if_neg h2];rfl
   ·rw [ite'_t (b:=decide ((i:Int) ≥ (b.length:Int))) (by simp;omega),List.drop_eq_getElem_cons hi,show b.drop i=[] from List.drop_eq_nil_of_le (by omega)]
    rfl
 exact main a.length 0 (k+2) (by omega) (by omega) (by omega)
theorem c103 (a b:List Int) (hk:a.length < k) (ha:a.length≤maxLen):C (k+1) 103 [.d (.list 1 (I1 a)),.d (.list 1 (I1 b))]=io (cmpI a b):=by
 rw [F103.run]
 have fin:∀ (i n:Nat),i≤a.length→i≤b.length→(¬ i < a.length∨¬ i < b.length)→F103.L2 k (C k) (n+1) (I1 a) (I1 b) (i:Int)=io (cmpI (a.drop i) (b.drop i)):=by
  intro i n h1 h2 h3
  have e:F103.L2 k (C k) (n+1) (I1 a) (I1 b) (i:Int)=ite' (decide ((a.length:Int) < (b.length:Int))) (io (-1)) (ite' (decide ((a.length:Int) > (b.length:Int))) (io 1) (io 0)):=by
   rw [F103.L2.succ,zl,zl]
   by_cases hi:i < a.length
   ·rw [ite'_t (lt_t hi),ite'_f (lt_f (by omega))];rfl
   ·rw [ite'_f (lt_f hi)];rfl
  rw [e]
  rcases Nat.lt_trichotomy a.length b.length with h | h | h
  ·obtain rfl:i=a.length:=by omega
   rw [ite'_t (by simp;omega),List.drop_eq_nil_of_le (Nat.le_refl _),List.drop_eq_getElem_cons h]
   rfl
  ·rw [ite'_f (by simp;omega),ite'_f (by simp;omega),List.drop_eq_nil_of_le (by omega),List.drop_eq_nil_of_le (by omega)]
   rfl
  ·obtain rfl:i=b.length:=by omega
   rw [ite'_f (by simp;omega),ite'_t (by simp;omega),List.drop_eq_nil_of_le (Nat.le_refl _),List.drop_eq_getElem_cons h]
   rfl
 have main:∀ (m i n:Nat),i+m=a.length→m < n→i≤b.length→F103.L2 k (C k) n (I1 a) (I1 b) (i:Int)=io (cmpI (a.drop i) (b.drop i)):=by
  intro m
  induction m with
  | zero =>
   intro i n hm hn hb
   obtain ⟨n,rfl⟩:∃ j,n=j+1:=⟨n - 1,by omega⟩
   exact fin i n (by omega) hb (by omega)
  | succ m ih =>
   intro i n hm hn hb
   obtain ⟨n,rfl⟩:∃ j,n=j+1:=⟨n - 1,by omega⟩
   by_cases h:i < b.length
   ·have hi:i < a.length:=by omega
    have hx:=List.getElem?_eq_getElem hi
    have hy:=List.getElem?_eq_getElem h
    rw [F103.L2.succ,zl,zl,ite'_t (lt_t hi),ite'_t (lt_t h),ite'_t (zn hi)]
    simp only [Int.toNat_natCast,zG (I1_get' hx),zG (I1_get' hy),List.getElem?_cons_zero,Option.bind_some,zy,zd]
    rw [ite'_t (zn h),ite'_t (zn hi),ite'_t (zn h),zz hi ha,ih (i+1) n (by omega) (by omega) (by omega),ziR hi h]
    by_cases h1:a[i] < b[i]
    ·rw [ite'_t (by simpa using h1),if_pos h1];rfl
    ·rw [ite'_f (by simpa using h1),if_neg h1]
     by_cases h2:a[i] > b[i]
     ·rw [ite'_t (by simpa using h2),if_pos h2];rfl
     ·rw [ite'_f (by simpa using h2),if_neg h2]
   ·exact fin i n (by omega) hb (by omega)
 exact main a.length 0 k (by omega) hk (by omega)
def cmpF (x y:Atom):Int:=if x.1 < y.1 then -1 else if x.1 > y.1 then 1 else cmpI x.2 y.2
theorem c105 (x y:Atom) (hk:x.2.length < k) (ha:x.2.length≤maxLen):C (k+2) 105 [.agg [.d (.int .i64 x.1),.d (.list 1 (I1 x.2))],.agg [.d (.int .i64 y.1),.d (.list 1 (I1 y.2))]]=io (cmpF x y):=by
 rw [F105.run,c103 x.2 y.2 hk ha,iB']
 unfold cmpF
 by_cases h1:x.1 < y.1
 ·rw [ite'_t (by simpa using h1),if_pos h1];rfl
 ·rw [ite'_f (by simpa using h1),if_neg h1]
  by_cases h2:x.1 > y.1
  ·rw [ite'_t (by simpa using h2),if_pos h2];rfl
  ·rw [ite'_f (by simpa using h2),if_neg h2];rfl
theorem c132 (x y:Int):C (k+4) 132 [.d (.list 1 [[.int .i64 x],[.int .i64 y]])]=io (if x=0 then y else x):=by
 rw [F132.run]
 have s0:∀ n,F132.L3 (k+3) (C (k+3)) (n+1) 0 [[.int .i64 x],[.int .i64 y]] 2 0=ite' (x != 0) (io x) (F132.L3 (k+3) (C (k+3)) n 0 [[.int .i64 x],[.int .i64 y]] 2 1):=fun n=>by rw [F132.L3.succ];rfl
 have s1:∀ n,F132.L3 (k+3) (C (k+3)) (n+1) 0 [[.int .i64 x],[.int .i64 y]] 2 1=ite' (y != 0) (io y) (F132.L3 (k+3) (C (k+3)) n 0 [[.int .i64 x],[.int .i64 y]] 2 2):=fun n=>by rw [F132.L3.succ];rfl
 have s2:∀ n,F132.L3 (k+3) (C (k+3)) (n+1) 0 [[.int .i64 x],[.int .i64 y]] 2 2=io 0:=fun n=>by rw [F132.L3.succ];rfl
 show F132.L3 (k+3) (C (k+3)) (k+2+1) 0 [[.int .i64 x],[.int .i64 y]] 2 0=_
 rw [s0,s1,s2]
 by_cases h:x=0
 ·rw [if_pos h,ite'_f (by simpa using h)]
  by_cases h':y=0
  ·rw [ite'_f (by simpa using h'),h']
  ·rw [ite'_t (by simpa using h')]
 ·rw [if_neg h,ite'_t (by simpa using h)]
theorem c77 (x y:Atom) (hk:x.2.length < k) (ha:x.2.length≤maxLen):C (k+5) 77 [.agg [.d (.int .i64 x.1),.d (.list 1 (I1 x.2))],.agg [.d (.int .i64 y.1),.d (.list 1 (I1 y.2))]]=io (cmpF x y):=by
 rw [F77.run,c133,iB',c112 (k:=k+1) x.2 y.2 (by omega) ha,iB',c132,iB']
 unfold cmpF cmp1
 by_cases h1:x.1 < y.1
 ·rw [if_pos h1,if_pos h1];rfl
 ·rw [if_neg h1,if_neg h1]
  by_cases h2:x.1 > y.1
  ·rw [if_pos h2,if_pos h2];rfl
  ·rw [if_neg h2,if_neg h2];rfl
def zln (a:Ovi.Rows) (x:Atom) (b:Bool):Prop:=(b=true→(0≤x.1∧x.1 < (a.length:Int))∧(x.2.length:Int)=ar a x.1)∧∀ k,a.length < k→x.2.length < k→C (k+6) 76 [.d (.list 3 a),.agg [.d (.int .i64 x.1),.d (.list 1 (I1 x.2))]]=bo b∧C (k+6) 104 [.d (.list 3 a),.agg [.d (.int .i64 x.1),.d (.list 1 (I1 x.2))]]=bo b
theorem zpC {a:Ovi.Rows} (ha:Fit Rl (.list 3 a)) (x:Atom) (hI:∀ z∈x.2,inI z) (hx2:x.2.length≤maxLen):∃ b,zln a x b:=by
 have hlen:=ha.len
 unfold maxLen at hlen
 obtain ⟨b,hb⟩:=rels ha
 have e:∀ k,a.length < k→C (k+5) 75 [.d (.list 3 a)]=bo b∧C (k+5) 107 [.d (.list 3 a)]=bo b:=fun k hk=>hb (k+2) (by omega)
 cases b with
 | false =>
  refine ⟨false,fun h=>(by cases h),fun k hk hx=>?_⟩
  rw [F76.run,F104.run,(e k hk).1,(e k hk).2,bB,bB]
  exact ⟨rfl,rfl⟩
 | true =>
  by_cases hr:0≤x.1∧x.1≤(a.length:Int) - 1
  ·obtain ⟨i,hi⟩:∃ i:Nat,x.1=i:=⟨x.1.toNat,by omega⟩
   have hia:i < a.length:=by omega
   obtain ⟨row,hrow,hfr,_⟩:=ha.row hia
   obtain ⟨d0,r0,rfl,f0,h1⟩:=Fits.cons hfr
   obtain ⟨d1,r1,rfl,f1,h1⟩:=Fits.cons h1
   obtain ⟨n,rfl,_⟩:=f1.int
   have hcn:zm .i64 a ((i:Int)).toNat 1=some n:=by rw [Int.toNat_natCast,zG hrow];simp [zy]
   by_cases hn:((I1 x.2).length:Int)=n
   ·refine ⟨!(x.2.any fun t=>!okV t),fun _=>⟨by omega,by unfold ar;rw [hi,hcn];rw [zl] at hn;exact hn⟩,fun k hk hx=>?_⟩
    rw [F76.run,F104.run,(e k hk).1,(e k hk).2,bB,bB,ite'_nt,ite'_nt,c128,c157,bB,bB,zae (by omega) (by omega),decide_eq_true hr,ite'_nt,ite'_nt,hi,ite'_t (zn hia),ite'_t (zn hia),hcn]
    simp only [zd]
    rw [ite'_f (by simpa using hn),ite'_f (b:=((I1 x.2).length:Int) != n) (by simpa using hn)]
    have e69:=c129 (k:=k+3) x.2 130 [] (fun t=>!okV t) (by omega) hx2 (fun z _=>by
     rw [List.map_nil,F130.run,c131,bB];rfl)
    rw [e69,bB]
    refine ⟨rfl,?_⟩
    have:=zbd (xs:=x.2) (L:=fun m j=>F104.L4 (k+5) (C (k+5)) m j (i:Int) (I1 x.2)) (stop:=fun t=>!okV t) (hit:=bo false) (fin:=bo true)
     (fun m j t ht=>by
      have hj:=(List.getElem?_eq_some_iff.1 ht).1
      rw [F104.L4.succ,zl,ite'_t (lt_t hj),ite'_t (zn hj)]
      simp only [Int.toNat_natCast,zG (I1_get' ht),List.getElem?_cons_zero,Option.bind_some,zy,zd]
      rw [c159 (hI t (List.mem_of_getElem? ht)),bB,zz hj hx2];rfl)
     (fun m=>by rw [F104.L4.succ,zl,ite'_f (lt_f (by omega))];rfl) (k+5) (by omega)
    rw [show F104.L4 (k+5) (C (k+5)) (k+5) 0 (i:Int) (I1 x.2)=_ from this]
    cases x.2.any (fun t=>!okV t)<;>rfl
   ·refine ⟨false,fun h=>(by cases h),fun k hk hx=>?_⟩
    rw [F76.run,F104.run,(e k hk).1,(e k hk).2,bB,bB,ite'_nt,ite'_nt,c128,c157,bB,bB,zae (by omega) (by omega),decide_eq_true hr,ite'_nt,ite'_nt,hi,ite'_t (zn hia),ite'_t (zn hia),hcn]
    simp only [zd]
    rw [ite'_t (by simpa using hn),ite'_t (b:=((I1 x.2).length:Int) != n) (by simpa using hn)]
    exact ⟨rfl,rfl⟩
  ·refine ⟨false,fun h=>(by cases h),fun k hk hx=>?_⟩
   rw [F76.run,F104.run,(e k hk).1,(e k hk).2,bB,bB,ite'_nt,ite'_nt,c128,c157,bB,bB,zae (by omega) (by omega),decide_eq_false hr]
   exact ⟨rfl,rfl⟩
def src (a:Ovi.Rows) (x:Atom):Bool:=match a[x.1.toNat]? with
 | some [_,_,.bool b]=>b
 | _=>false
theorem zhl {a:Ovi.Rows} (ha:Fit Rl (.list 3 a)) {x:Atom} (h:0≤x.1∧x.1 < (a.length:Int)):inR x.1 a.length=true∧zan a x.1.toNat 2=some (src a x):=by
 obtain ⟨i,hi⟩:∃ i:Nat,x.1=i:=⟨x.1.toNat,by omega⟩
 have hia:i < a.length:=by omega
 obtain ⟨row,hrow,hfr,_⟩:=ha.row hia
 obtain ⟨d0,r0,rfl,f0,h1⟩:=Fits.cons hfr
 obtain ⟨d1,r1,rfl,f1,h1⟩:=Fits.cons h1
 obtain ⟨d2,r2,rfl,f2,h1⟩:=Fits.cons h1
 obtain rfl:=Fits.nil h1
 obtain ⟨b,rfl⟩:=f2.bool
 rw [hi]
 refine ⟨zn hia,?_⟩
 rw [Int.toNat_natCast,zai hrow]
 unfold src
 rw [hi,Int.toNat_natCast,hrow]
 rfl
theorem zml {a:Ovi.Rows} (ha:Fit Rl (.list 3 a)) (xs:List Atom) (hI:∀ x∈xs,∀ z∈x.2,inI z) (hs:zC xs+xs.length≤1048576) (hal:a.length≤1048576):∃ b,(b=true→(xs.length≤30∧∀ x∈xs,(0≤x.1∧x.1 < (a.length:Int))∧(x.2.length:Int)=ar a x.1)∧(∀ x∈xs,x.2.length≤3)∧(∀ (i:Nat) x y,xs[i]? = some x→xs[i+1]? = some y→cmpF x y < 0)∧∀ r:Int,0≤r→r < (a.length:Int)→ar a r≤3)∧∀ k,2000000≤k→C (k+8) 40 [.agg [.d (.list 3 a),.d (.list 2 (A1 xs))]]=bo b∧C (k+8) 58 [.agg [.d (.list 3 a),.d (.list 2 (A1 xs))]]=bo b:=by
 have hmax:(1048576:Nat)≤maxLen:=by decide
 have hl:∀ x∈xs,x.2.length≤1048576:=fun x hx=>by have:=zab hx;omega
 obtain ⟨vf,hvf⟩:∃ vf:Atom→Bool,∀ x∈xs,zln a x (vf x):=by
  have:∀ x:Atom,∃ b,x∈xs→zln a x b:=by
   intro x
   by_cases h:x∈xs
   ·obtain ⟨b,hb⟩:=zpC ha x (hI x h) (by have:=hl x h;omega)
    exact ⟨b,fun _=>hb⟩
   ·exact ⟨false,fun h'=>absurd h' h⟩
  obtain ⟨vf,hv⟩:=Classical.axiomOfChoice this
  exact ⟨vf,fun x hx=>hv x hx⟩
 obtain ⟨rb,hr3,hrb⟩:=znD ha
 let bad:Nat→Atom→Bool:=fun i x=>!vf x||((decide (i > 0)&&decide (cmpF (xs.getD (i - 1) x) x ≥ 0))||(src a x&&decide ((zah x.2).length > 0)))
 have key:∃ st:Bool,(st=false→(∀ x∈xs,vf x=true)∧∀ (i:Nat) x y,xs[i]? = some x→xs[i+1]? = some y→cmpF x y < 0)∧∀ k,2000000≤k→F40.L4 (k+7) (C (k+7)) (k+7) (A1 xs) (xs.length:Int) 0 a (A1 xs)=bo (!st)∧F58.L2 (k+7) (C (k+7)) (k+7) 0 a (A1 xs)=cond st (bo false) (bo (rb&&decide ((xs.length:Int)≤30))):=by
  have s78:∀ k,2000000≤k→∀ (n i:Nat) x,xs[i]? = some x→F40.L4 (k+7) (C (k+7)) (n+1) (A1 xs) (xs.length:Int) (i:Int) a (A1 xs)=cond (bad i x) (bo false) (F40.L4 (k+7) (C (k+7)) n (A1 xs) (xs.length:Int) ((i+1:Nat):Int) a (A1 xs)) ∧
    F58.L2 (k+7) (C (k+7)) (n+1) (i:Int) a (A1 xs)=cond (bad i x) (bo false) (F58.L2 (k+7) (C (k+7)) n ((i+1:Nat):Int) a (A1 xs)):=by
   intro k hk n i x hx
   have hi:=(List.getElem?_eq_some_iff.1 hx).1
   have hxm:=List.mem_of_getElem? hx
   have hxl:=hl x hxm
   obtain ⟨hv1,hv2⟩:=hvf x hxm
   obtain ⟨e1,e2⟩:=hv2 (k+1) (by omega) (by omega)
   have hc0:zm .i64 (A1 xs) (i:Int).toNat 0=some x.1:=by rw [Int.toNat_natCast,zG (zaF hx)];simp [zy]
   have hc1:zq 1 (A1 xs) (i:Int).toNat 1=some (I1 x.2):=by rw [Int.toNat_natCast,zV (zaF hx)];simp [zJ]
   rw [F40.L4.succ,F58.L2.succ,zo,ite'_t (lt_t hi),ite'_t (zn hi),ite'_t (lt_t hi),ite'_t (zn hi),hc0,hc1]
   simp only [zd,zf]
   rw [e1,e2,bB,bB,zz hi (m:=xs.length) (by omega)]
   cases hvx:vf x with
   | false =>
    have hb:bad i x=true:=by simp [bad,hvx]
    rw [hb]
    exact ⟨rfl,rfl⟩
   | true =>
    obtain ⟨g1,g2⟩:=zhl ha (hv1 hvx).1
    have tail:∀ (X Y:Option Res) (nu:Bool),nu=decide ((zah x.2).length > 0)→True:=fun _ _ _ _=>trivial
    have n126:=c78 (k:=k+3) x.1 x.2 (hI x hxm) (by omega) hxl
    have n75:=c106 (k:=k+4) x.1 x.2 (hI x hxm) (by omega) hxl
    rw [ite'_nt,ite'_nt,g1,g2,n126,n75]
    simp only [zt,zi,zu,zbB,zf,zl]
    have hnu:decide (((zah x.2).length:Int) > 0)=decide ((zah x.2).length > 0):=by
     rw [Bool.eq_iff_iff];simp only [decide_eq_true_eq];omega
    rw [hnu]
    by_cases h0:i=0
    ·subst h0
     have hb:bad 0 x=(src a x&&decide ((zah x.2).length > 0)):=by simp [bad,hvx]
     rw [hb]
     cases src a x<;>cases decide ((zah x.2).length > 0)<;>exact ⟨rfl,rfl⟩
    ·have hw:IntKind.i64.wrap ((i:Int) - 1)=((i - 1:Nat):Int):=by rw [zae (by omega) (by omega)];omega
     have hy:xs[i - 1]? = some xs[i - 1]:=List.getElem?_eq_getElem (by omega)
     have hyl:=hl _ (List.mem_of_getElem? hy)
     have hd0:zm .i64 (A1 xs) ((i - 1:Nat):Int).toNat 0=some (xs[i - 1]).1:=by rw [Int.toNat_natCast,zG (zaF hy)];simp [zy]
     have hd1:zq 1 (A1 xs) ((i - 1:Nat):Int).toNat 1=some (I1 (xs[i - 1]).2):=by rw [Int.toNat_natCast,zV (zaF hy)];simp [zJ]
     have hgt:decide ((i:Int) > 0)=true:=by simp;omega
     rw [hgt,hw,hd0,hd1]
     simp only [zd,zf]
     rw [c77 (k:=k+2) xs[i - 1] x (by omega) (by omega),c105 (k:=k+5) xs[i - 1] x (by omega) (by omega),iB',iB',zn (i:=i - 1) (by omega)]
     have hb:bad i x=(decide (cmpF xs[i - 1] x ≥ 0)||(src a x&&decide ((zah x.2).length > 0))):=by
      simp [bad,hvx,List.getD_eq_getElem?_getD,hy,show i > 0 by omega]
     rw [hb]
     cases decide (cmpF xs[i - 1] x ≥ 0)<;>cases src a x<;>cases decide ((zah x.2).length > 0)<;>exact ⟨rfl,rfl⟩
  have d78:∀ k n,F40.L4 (k+7) (C (k+7)) (n+1) (A1 xs) (xs.length:Int) (xs.length:Int) a (A1 xs)=bo true:=fun k n=>by rw [F40.L4.succ,ite'_f (lt_f (by omega))];rfl
  have d74:∀ k,2000000≤k→∀ n,F58.L2 (k+7) (C (k+7)) (n+1) (xs.length:Int) a (A1 xs)=bo (rb&&decide ((xs.length:Int)≤30)):=fun k hk n=>by
   rw [F58.L2.succ,zo,ite'_f (lt_f (by omega)),(hrb (k+4) (by omega)).2,bB]
   cases rb<;>rfl
  by_cases hall:∀ (i:Nat) x,xs[i]? = some x→bad i x=false
  ·refine ⟨false,fun _=>⟨fun x hx=>?_,fun i x y hx hy=>?_⟩,fun k hk=>?_⟩
   ·obtain ⟨i,hi⟩:=List.mem_iff_getElem?.1 hx
    have:=hall i x hi
    simp only [bad,Bool.or_eq_false_iff,Bool.not_eq_false'] at this
    exact this.1
   ·have:=hall (i+1) y hy
    simp only [bad,Bool.or_eq_false_iff,Bool.and_eq_false_iff,decide_eq_false_iff_not] at this
    have h2:=this.2.1
    rw [Nat.add_sub_cancel,List.getD_eq_getElem?_getD,hx] at h2
    simp only [Option.getD_some] at h2
    omega
   ·constructor
    ·rcases zal (L:=fun n i=>F40.L4 (k+7) (C (k+7)) n (A1 xs) (xs.length:Int) i a (A1 xs)) (stop:=bad) (hit:=fun _=>bo false) (fin:=bo true) (fun n i x hx=>(s78 k hk n i x hx).1) (d78 k) (k+7) (by omega) with ⟨i,x,hx,hst,_⟩ | ⟨_,h⟩
     ·rw [hall i x hx] at hst;cases hst
     ·exact h
    ·rcases zal (L:=fun n i=>F58.L2 (k+7) (C (k+7)) n i a (A1 xs)) (stop:=bad) (hit:=fun _=>bo false) (fun n i x hx=>(s78 k hk n i x hx).2) (d74 k hk) (k+7) (by omega) with ⟨i,x,hx,hst,_⟩ | ⟨_,h⟩
     ·rw [hall i x hx] at hst;cases hst
     ·exact h
  ·refine ⟨true,⟨fun h=>(by cases h),fun k hk=>?_⟩⟩
   constructor
   ·rcases zal (L:=fun n i=>F40.L4 (k+7) (C (k+7)) n (A1 xs) (xs.length:Int) i a (A1 xs)) (stop:=bad) (hit:=fun _=>bo false) (fin:=bo true) (fun n i x hx=>(s78 k hk n i x hx).1) (d78 k) (k+7) (by omega) with ⟨i,x,hx,hst,h⟩ | ⟨h,_⟩
    ·exact h
    ·exact absurd h hall
   ·rcases zal (L:=fun n i=>F58.L2 (k+7) (C (k+7)) n i a (A1 xs)) (stop:=bad) (hit:=fun _=>bo false) (fun n i x hx=>(s78 k hk n i x hx).2) (d74 k hk) (k+7) (by omega) with ⟨i,x,hx,hst,h⟩ | ⟨h,_⟩
    ·exact h
    ·exact absurd h hall
 obtain ⟨st,hst,hk2⟩:=key
 refine ⟨rb&&(decide ((xs.length:Int)≤30)&&!st),fun h=>?_,fun k hk=>?_⟩
 ·simp only [Bool.and_eq_true,decide_eq_true_eq,Bool.not_eq_true'] at h
  refine ⟨⟨by omega,fun x hx=>(hvf x hx).1 ((hst h.2.2).1 x hx)⟩,fun x hx=>?_,(hst h.2.2).2,hr3 h.1⟩
  obtain ⟨g1,g2⟩:=(hvf x hx).1 ((hst h.2.2).1 x hx)
  have:=hr3 h.1 x.1 g1.1 g1.2
  omega
 ·obtain ⟨e1,e2⟩:=hk2 k hk
  constructor
  ·rw [F40.run,(hrb (k+4) (by omega)).1,bB,zo,e1]
   cases rb with
   | false=>rfl
   | true =>
    rw [ite'_nt]
    by_cases h30:(xs.length:Int)≤30
    ·rw [ite'_f (by simp;omega),decide_eq_true h30];rfl
    ·rw [ite'_t (by simp;omega),decide_eq_false h30];rfl
  ·rw [F58.run,e2]
   cases st<;>cases rb<;>cases decide ((xs.length:Int)≤30)<;>rfl
theorem zpF {a:Ovi.Rows} (ha:Fit Rl (.list 3 a)) (xs:List Atom) (hI:∀ x∈xs,∀ z∈x.2,inI z) (hs:zC xs+xs.length≤1048576) (hal:a.length≤1048576):∃ b,(b=true→xs.length≤30∧∀ x∈xs,(0≤x.1∧x.1 < (a.length:Int))∧(x.2.length:Int)=ar a x.1)∧∀ k,2000000≤k→C (k+8) 40 [.agg [.d (.list 3 a),.d (.list 2 (A1 xs))]]=bo b∧C (k+8) 58 [.agg [.d (.list 3 a),.d (.list 2 (A1 xs))]]=bo b:=by
 obtain ⟨b,h1,h2⟩:=zml ha xs hI hs hal
 exact ⟨b,fun h=>(h1 h).1,h2⟩
def vals (xs:List Atom):List Int:=xs.flatMap fun x=>x.2
theorem zhn (xs:List Atom):(vals xs).length=zC xs:=by simp [vals,zC,List.length_flatMap]
theorem zpb {xs:List Atom} (hI:∀ x∈xs,∀ z∈x.2,inI z):∀ z∈vals xs,inI z:=by
 intro z hz
 obtain ⟨x,hx,h⟩:=List.mem_flatMap.1 hz
 exact hI x hx z h
end Go.Proofs.YtiacahdabflcdaaGreat.Q
namespace Go.Proofs.YtiacahdabflcdaaGreat.Q
open Go Ovi
variable {k:Nat}
theorem I1_c {zs:List Int} {i:Nat} {z:Int} (h:zs[i]? = some z):zm .i64 (I1 zs) (i:Int).toNat 0=some z:=by rw [Int.toNat_natCast,zG (I1_get' h)];simp [zy]
theorem zcy {M:List Int} {i:Nat} (z:Int) (h:i < M.length):rowsSet (I1 M) i 0 [.int .i64 z]=I1 (M.set i z):=by
 have:(I1 M).getD i []=[.int .i64 M[i]]:=by simp [I1,List.getD,h]
 unfold rowsSet
 rw [this]
 simp [I1,List.map_set]
theorem LL_get' {l:BL} {i:Nat} {zs:List Int} (h:l[i]? = some zs):(LL l)[i]? = some [.list 1 (I1 zs)]:=by simp [LL,h]
theorem LL_c {l:BL} {i:Nat} {zs:List Int} (h:l[i]? = some zs):zq 1 (LL l) (i:Int).toNat 0=some (I1 zs):=by rw [Int.toNat_natCast,zV (LL_get' h)];simp [zJ]
theorem zdb (l:BL) (b:List Int):LL l++[[D.list 1 (I1 b)]]=LL (l++[b]):=by simp [LL]
theorem zjM (l l':BL):LL l++LL l'=LL (l++l'):=by simp [LL]
theorem zbO (l:List Int) (z:Int):I1 l++[[D.int .i64 z]]=I1 (l++[z]):=by simp [I1]
theorem zaS {xs:List Atom} {i:Nat} {x:Atom} (h:xs[i]? = some x):zm .i64 (A1 xs) (i:Int).toNat 0=some x.1:=by rw [Int.toNat_natCast,zG (zaF h)];simp [zy]
theorem zaT {xs:List Atom} {i:Nat} {x:Atom} (h:xs[i]? = some x):zq 1 (A1 xs) (i:Int).toNat 1=some (I1 x.2):=by rw [Int.toNat_natCast,zV (zaF h)];simp [zJ]
theorem zka (vs b:List Int):fitS [] vs b=some b:=by simp [fitS]
def okT (ts:List Int):Prop:=∀ t∈ts, -10≤t∧t≤4
def fitR:Option (List Int)→Option Res
 | some b=>some [(false,[.row 3 1 (I1 b)]),(false,[.d (.bool true)])]
 | none=>some [(false,[.nil]),(false,[.d (.bool false)])]
theorem zov {b:List Int} {f:Ovi.Rows→Bool→Option Res}:(za (fitR (some b)) fun r=>zc (resO 3 1 2 false 1 r 0 0) fun l=>zj (resB 2 false 1 r 1 0) fun c=>f l c)=f (I1 b) true:=rfl
theorem l209 (ts vs:List Int) (r:Int) (hT:okT ts) (hl:vs.length=ts.length) (h5:ts.length≤1048576) (K:Nat):∀ (m i n:Nat) (b:List Int),i+m=ts.length→m < n→b.length=5 →
  F209.L5 K (C K) n (I1 ts) (ts.length:Int) (i:Int) r (I1 vs) (I1 b)=fitR (fitS (ts.drop i) (vs.drop i) b):=by
 have hmax:(1048576:Nat)≤maxLen:=by decide
 intro m
 induction m with
 | zero =>
  intro i n b hm hn hb
  obtain ⟨n,rfl⟩:∃ j,n=j+1:=⟨n - 1,by omega⟩
  obtain rfl:i=ts.length:=by omega
  rw [F209.L5.succ,ite'_f (lt_f (by omega)),List.drop_length,zka]
  rfl
 | succ m ih =>
  intro i n b hm hn hb
  obtain ⟨n,rfl⟩:∃ j,n=j+1:=⟨n - 1,by omega⟩
  have hi:i < ts.length:=by omega
  have hiv:i < vs.length:=by omega
  have hx:=List.getElem?_eq_getElem hi
  have hy:=List.getElem?_eq_getElem hiv
  obtain ⟨h1,h2⟩:=hT _ (List.getElem_mem hi)
  rw [F209.L5.succ,ite'_t (lt_t hi),zl,ite'_t (zn hi),I1_c hx,zd,zl,ite'_t (zn hiv),I1_c hy,zd,zz hi (m:=ts.length) (by omega),List.drop_eq_getElem_cons hi,List.drop_eq_getElem_cons hiv,fitS,zae (by omega) (by omega)]
  by_cases hneg:ts[i] < 0
  ·rw [ite'_t (by simpa using hneg),if_pos hneg]
   by_cases he:vs[i] = -1 - ts[i]
   ·rw [ite'_f (by simpa using he),if_pos he]
    exact ih (i+1) n b (by omega) (by omega) hb
   ·rw [ite'_t (by simpa using he),if_neg he];rfl
  ·obtain ⟨q,hq⟩:∃ q:Nat,ts[i]=(q:Int):=⟨ts[i].toNat,by omega⟩
   have hq5:q < b.length:=by omega
   have hbq:b[q]? = some (b.getD q 0):=by rw [List.getD_eq_getElem?_getD,List.getElem?_eq_getElem hq5];rfl
   rw [ite'_f (by simpa using hneg),if_neg hneg,hq,zl,ite'_t (zn hq5),I1_c hbq,zd,Int.toNat_natCast]
   by_cases h10:b.getD q 0=10
   ·rw [ite'_t (by simpa using h10),ite'_t (zn hq5),if_pos h10,zcy _ hq5]
    exact ih (i+1) n _ (by omega) (by omega) (by simpa using hb)
   ·rw [ite'_f (by simpa using h10),ite'_t (zn hq5),if_neg h10]
    rw [zd]
    by_cases he:b.getD q 0=vs[i]
    ·rw [ite'_f (by simpa using he),if_pos he]
     exact ih (i+1) n b (by omega) (by omega) hb
    ·rw [ite'_t (by simpa using he),if_neg he];rfl
theorem c209 (x f:Atom) (b:List Int) (hT:okT x.2) (hl:x.1=f.1→f.2.length=x.2.length) (h5:x.2.length≤1048576) (hb:b.length=5) (hk:x.2.length < k) :
  C (k+2) 209 [.d (.list 1 (I1 b)),.agg [.d (.int .i64 x.1),.d (.list 1 (I1 x.2))],.agg [.d (.int .i64 f.1),.d (.list 1 (I1 f.2))]]=fitR (fitA x f b):=by
 rw [F209.run]
 unfold fitA
 by_cases h:x.1=f.1
 ·rw [ite'_f (by simpa using h),if_pos h]
  have e:C (k+1) 87 [.d (.list 1 (I1 b))]=some [(false,[.row 3 1 (I1 b)])]:=by
   have:C (k+1) 87 [.d (.list 1 (I1 b))]=zbw 3 [.d (.list 1 (I1 b))]:=by kernel_rfl
   rw [this]
   simp only [zbw,za6]
   rw [show Nat.ble b.length 1099511627776=true from Nat.ble_eq_true_of_le (by omega)]
   rfl
  rw [e]
  simp only [zi,zu,zf]
  have:=l209 x.2 f.2 f.1 hT (hl h) h5 (k+1) x.2.length 0 (k+1) b (by omega) (by omega) hb
  rw [List.drop_zero,List.drop_zero] at this
  rw [zl]
  exact this
 ·rw [ite'_t (by simpa using h),if_neg h];rfl
theorem ten (k:Nat):C (k+1) 205 []=io 10:=by rw [F205.run];rfl
def FitT (o:Option (List Int)) (r:Option Res):Prop:=∃ y,r=some [(false,[.row 3 1 (I1 y)]),(false,[.d (.bool o.isSome)])]∧∀ b,o=some b→y=b
theorem l229 (ts vs:List Int) (r r':Int) (hT:okT ts) (hl:vs.length=ts.length) (h5:ts.length≤1048576) (K:Nat):∀ (m i n:Nat) (b:List Int),i+m=ts.length→m < n→b.length=5 →
  FitT (fitS (ts.drop i) (vs.drop i) b) (F229.L5 (K+1) (C (K+1)) n (i:Int) r (I1 ts) r' (I1 vs) (I1 b)):=by
 have hmax:(1048576:Nat)≤maxLen:=by decide
 intro m
 induction m with
 | zero =>
  intro i n b hm hn hb
  obtain ⟨n,rfl⟩:∃ j,n=j+1:=⟨n - 1,by omega⟩
  obtain rfl:i=ts.length:=by omega
  rw [F229.L5.succ,zl,ite'_f (lt_f (by omega)),List.drop_length,zka]
  exact ⟨b,rfl,fun c h=>by cases h;rfl⟩
 | succ m ih =>
  intro i n b hm hn hb
  obtain ⟨n,rfl⟩:∃ j,n=j+1:=⟨n - 1,by omega⟩
  have hi:i < ts.length:=by omega
  have hiv:i < vs.length:=by omega
  have hx:=List.getElem?_eq_getElem hi
  have hy:=List.getElem?_eq_getElem hiv
  obtain ⟨h1,h2⟩:=hT _ (List.getElem_mem hi)
  rw [F229.L5.succ,zl,ite'_t (lt_t hi),ite'_t (zn hi),I1_c hx,zd,zz hi (m:=ts.length) (by omega),List.drop_eq_getElem_cons hi,List.drop_eq_getElem_cons hiv,fitS,zae (by omega) (by omega)]
  by_cases hneg:ts[i] < 0
  ·rw [ite'_t (by simpa using hneg),if_pos hneg,zl,ite'_t (zn hiv),I1_c hy,zd]
   by_cases he:vs[i] = -1 - ts[i]
   ·rw [ite'_f (by simpa using he.symm),if_pos he]
    exact ih (i+1) n b (by omega) (by omega) hb
   ·rw [ite'_t (by simpa using fun h=>he h.symm),if_neg he]
    exact ⟨b,rfl,fun c h=>by cases h⟩
  ·obtain ⟨q,hq⟩:∃ q:Nat,ts[i]=(q:Int):=⟨ts[i].toNat,by omega⟩
   have hq5:q < b.length:=by omega
   have hbq:b[q]? = some (b.getD q 0):=by rw [List.getD_eq_getElem?_getD,List.getElem?_eq_getElem hq5];rfl
   rw [ite'_f (by simpa using hneg),if_neg hneg,hq,zl,ite'_t (zn hq5),I1_c hbq,zd,ten,iB',Int.toNat_natCast,zl]
   have hset:∀ b',b'=b.set q vs[i]→FitT (fitS (ts.drop (i+1)) (vs.drop (i+1)) b') (ite' (inR (i:Int) vs.length) (zg (zm .i64 (I1 vs) (i:Int).toNat 0) fun n20=>ite' (inR (q:Int) b.length) (F229.L5 (K+1) (C (K+1)) n ((i+1:Nat):Int) r (I1 ts) r' (I1 vs) (rowsSet (I1 b) q 0 [.int .i64 n20])) none) none):=by
    intro b' hb'
    rw [ite'_t (zn hiv),I1_c hy,zd,ite'_t (zn hq5),zcy _ hq5,← hb']
    exact ih (i+1) n b' (by omega) (by omega) (by rw [hb'];simpa using hb)
   by_cases h10:b.getD q 0=10
   ·rw [ite'_f (by simpa using h10),if_pos h10]
    exact hset _ rfl
   ·rw [ite'_t (by simpa using h10),if_neg h10,ite'_t (zn hq5),zd,ite'_t (zn hiv),I1_c hy,zd]
    by_cases he:b.getD q 0=vs[i]
    ·rw [ite'_f (by simpa using he),if_pos he]
     have:=hset b (by
      rw [← he]
      apply List.ext_getElem?
      intro j
      rw [List.getElem?_set]
      by_cases hj:q=j
      ·subst hj;rw [if_pos rfl,if_pos hq5,hbq]
      ·rw [if_neg hj])
     rw [ite'_t (zn hiv),I1_c hy,zd] at this
     rw [ite'_t (zn hiv),zd]
     exact this
    ·rw [ite'_t (by simpa using he),if_neg he]
     exact ⟨b,rfl,fun c h=>by cases h⟩
theorem c229 (x f:Atom) (b:List Int) (hT:okT x.2) (hl:x.1=f.1→f.2.length=x.2.length) (h5:x.2.length≤1048576) (hb:b.length=5) (hk:x.2.length < k) :
  FitT (fitA x f b) (C (k+2) 229 [.agg [.d (.int .i64 x.1),.d (.list 1 (I1 x.2))],.agg [.d (.int .i64 f.1),.d (.list 1 (I1 f.2))],.d (.list 1 (I1 b))]):=by
 rw [F229.run,zl,ite'_t (zQ (by omega))]
 unfold fitA
 by_cases h:x.1=f.1
 ·rw [ite'_f (by simpa using h),if_pos h,zl,zl,hl h,ite'_f (by simp)]
  have:=l229 x.2 f.2 x.1 f.1 hT (hl h) h5 k x.2.length 0 (k+1) b (by omega) (by omega) hb
  rw [List.drop_zero,List.drop_zero] at this
  exact this
 ·rw [ite'_t (by simpa using h),if_neg h]
  exact ⟨b,rfl,fun c h=>by cases h⟩
structure Mok (fs xs:List Atom):Prop where
 f30:fs.length≤30
 x3:xs.length≤3
 ts:∀ x∈xs,okT x.2∧x.2.length≤1048576
 len:∀ x∈xs,∀ f∈fs,x.1=f.1→f.2.length=x.2.length
theorem zmu {a n:Nat} (ha:a≤30) (hn:n≤3):a ^ n≤27000:=by
 have h1:a ^ n≤30 ^ n:=Nat.pow_le_pow_left ha n
 have h2:30 ^ n≤30 ^ 3:=Nat.pow_le_pow_right (by omega) hn
 omega
theorem Mok.lens {fs xs:List Atom} (h:Mok fs xs) (b:List Int):(mats fs xs b).length≤27000:=Nat.le_trans (zhc fs xs b) (zmu h.f30 h.x3)
theorem Mok.tail {fs:List Atom} {x:Atom} {xs:List Atom} (h:Mok fs (x::xs)):Mok fs xs :=
 ⟨h.f30,by have:=h.x3;simp only [List.length_cons] at this;omega,fun y hy=>h.ts y (List.mem_cons_of_mem _ hy),fun y hy=>h.len y (List.mem_cons_of_mem _ hy)⟩
def sub (fs xs:List Atom) (x:Atom) (b:List Int) (f:Atom):BL:=((fitA x f b).map (mats fs xs)).getD []
theorem zoe {fs xs:List Atom} (h:Mok fs xs) (x:Atom) (b:List Int) (f:Atom):(sub fs xs x b f).length≤27000:=by
 unfold sub
 cases fitA x f b with
 | none=>simp
 | some b'=>exact h.lens b'
theorem c183 {fs:List Atom} (hk:2000000≤k):∀ (xs:List Atom),Mok fs xs→∀ b:List Int,b.length=5→C (k+xs.length+3) 183 [.d (.list 2 (A1 fs)),.d (.list 2 (A1 xs)),.d (.list 1 (I1 b))]=some [(false,[.row 27 1 (LL (mats fs xs b))])]
 | [],h,b,hb=>by rw [F183.run,ite'_t (by rfl)];rfl
 | x::xs,h,b,hb=>by
  have hmax:(1048576:Nat)≤maxLen:=by decide
  have hx0:=h.ts x List.mem_cons_self
  have hf30:=h.f30
  have main:∀ (m i n:Nat) (acc:BL),i+m=fs.length→m < n→acc.length≤27000 * i →
    F183.L5 (k+xs.length+3) (C (k+xs.length+3)) n (A1 fs) (A1 (x::xs)) (I1 b) (A1 fs) (fs.length:Int) (i:Int) (LL acc)=some [(false,[.row 27 1 (LL (acc++(fs.drop i).flatMap (sub fs xs x b)))])]:=by
   intro m
   induction m with
   | zero =>
    intro i n acc hm hn ha
    obtain ⟨n,rfl⟩:∃ j,n=j+1:=⟨n - 1,by omega⟩
    obtain rfl:i=fs.length:=by omega
    rw [F183.L5.succ,ite'_f (lt_f (by omega)),List.drop_length]
    simp
   | succ m ih =>
    intro i n acc hm hn ha
    obtain ⟨n,rfl⟩:∃ j,n=j+1:=⟨n - 1,by omega⟩
    have hi:i < fs.length:=by omega
    have hf:=List.getElem?_eq_getElem hi
    have hfm:=List.getElem_mem hi
    have hsl:=zoe h.tail x b fs[i]
    have e0:zm .i64 (A1 (x::xs)) 0 0=some x.1:=zaS (xs:=x::xs) (i:=0) rfl
    have e1:zq 1 (A1 (x::xs)) 0 1=some (I1 x.2):=zaT (xs:=x::xs) (i:=0) rfl
    have hin:inR (0:Int) (A1 (x::xs)).length=true:=zn (i:=0) (by rw [zo];simp)
    have hk1:k+xs.length+3=(k+xs.length+1)+2:=rfl
    rw [F183.L5.succ,ite'_t (lt_t hi),zo,ite'_t (zn hi),zaS hf,zd,zaT hf,zf,hin,ite'_t rfl,e0,zd,e1,zf]
    have e123:C (k+xs.length+3) 209 [.d (.list 1 (I1 b)),.agg [.d (.int .i64 x.1),.d (.list 1 (I1 x.2))],.agg [.d (.int .i64 (fs[i]).1),.d (.list 1 (I1 (fs[i]).2))]]=fitR (fitA x fs[i] b) :=
     c209 (k:=k+xs.length+1) x fs[i] b hx0.1 (h.len x List.mem_cons_self _ hfm) hx0.2 hb (by omega)
    rw [e123,zz hi (m:=fs.length) (by omega),List.drop_eq_getElem_cons hi,List.flatMap_cons]
    cases hfa:fitA x fs[i] b with
    | none =>
     have hs:sub fs xs x b fs[i]=[]:=by unfold sub;rw [hfa];rfl
     rw [hs,List.nil_append]
     show F183.L5 (k+xs.length+3) (C (k+xs.length+3)) n (A1 fs) (A1 (x::xs)) (I1 b) (A1 fs) (fs.length:Int) ((i+1:Nat):Int) (LL acc)=_
     exact ih (i+1) n acc (by omega) (by omega) (by omega)
    | some b' =>
     have hs:sub fs xs x b fs[i]=mats fs xs b':=by unfold sub;rw [hfa];rfl
     have hb':b'.length=5:=by rw [zg8 hfa];exact hb
     rw [hs] at hsl ⊢
     have hins:inS (1:Int) ((A1 (x::xs)).length:Int) (A1 (x::xs)).length=true:=by
      simp only [inS,decide_eq_true_eq,zo,List.length_cons];omega
     have hrec:C (k+xs.length+3) 183 [.d (.list 2 (A1 fs)),.d (.list 2 (A1 xs)),.d (.list 1 (I1 b'))]=some [(false,[.row 27 1 (LL (mats fs xs b'))])]:=c183 hk xs h.tail b' hb'
     rw [zov,ite'_t rfl,hins,ite'_t rfl]
     show (za (C (k+xs.length+3) 183 [.d (.list 2 (A1 fs)),.d (.list 2 (A1 xs)),.d (.list 1 (I1 b'))]) fun r20=>zc (resO 27 1 1 false 1 r20 0 0) fun l100=>ite' (fits ((LL acc).length+l100.length)) (F183.L5 (k+xs.length+3) (C (k+xs.length+3)) n (A1 fs) (A1 (x::xs)) (I1 b) (A1 fs) (fs.length:Int) ((i+1:Nat):Int) (LL acc++l100)) none)=_
     rw [hrec]
     simp only [zi,zu,zf]
     rw [ite'_t (zQ (by rw [zx,zx];omega)),zjM,← List.append_assoc]
     exact ih (i+1) n _ (by omega) (by omega) (by rw [List.length_append];omega)
  have:=main fs.length 0 (k+xs.length+3) [] (by omega) (by omega) (by simp)
  rw [List.drop_zero,List.nil_append] at this
  rw [show k+(x::xs).length+3=(k+xs.length+3)+1 by simp only [List.length_cons];omega,F183.run,ite'_f (by rw [zo];simp;omega),zo]
  exact this
end Go.Proofs.YtiacahdabflcdaaGreat.Q
namespace Go.Proofs.YtiacahdabflcdaaGreat.Q
open Go Ovi
variable {k:Nat}
theorem zbh:∀ (a b:List Int),cmpI a b=0↔a=b
 | [],[]=>by simp [cmpI]
 | [],_::_=>by simp [cmpI]
 | _::_,[]=>by simp [cmpI]
 | x::xs,y::ys=>by
  unfold cmpI
  by_cases h1:x < y
  ·rw [if_pos h1]
   constructor
   ·intro h;omega
   ·intro h;cases h;omega
  ·rw [if_neg h1]
   by_cases h2:x > y
   ·rw [if_pos h2]
    constructor
    ·intro h;omega
    ·intro h;cases h;omega
   ·rw [if_neg h2,zbh xs ys]
    have:x=y:=by omega
    subst this
    simp
theorem c114 (a b:List Int) (hk:a.length < k) (ha:a.length≤maxLen):C (k+1) 114 [.d (.list 1 (I1 a)),.d (.list 1 (I1 b))]=bo (decide (a=b)):=by
 rw [F114.run,zl,zl]
 by_cases hl:a.length=b.length
 ·rw [ite'_f (by simp [hl])]
  have:=zal (xs:=a) (L:=fun n i=>F114.L4 k (C k) n (I1 a) (I1 b) (a.length:Int) i) (stop:=fun i x=>x != b.getD i 0) (hit:=fun _=>bo false) (fin:=bo true)
   (fun n i x hx=>by
    have hi:=(List.getElem?_eq_some_iff.1 hx).1
    have hy:b[i]? = some (b.getD i 0):=by rw [List.getD_eq_getElem?_getD,List.getElem?_eq_getElem (by omega)];rfl
    rw [F114.L4.succ,zl,zl,ite'_t (lt_t hi),ite'_t (zn hi),I1_c hx,zd,ite'_t (zn (by omega)),I1_c hy,zd,zz hi ha];rfl)
   (fun n=>by rw [F114.L4.succ,ite'_f (lt_f (by omega))];rfl) k hk
  rcases this with ⟨i,x,hx,hst,e⟩ | ⟨hst,e⟩
  ·rw [show F114.L4 k (C k) k (I1 a) (I1 b) (a.length:Int) 0=_ from e]
   refine zas (decide_eq_false (fun h=>?_)).symm
   subst h
   rw [List.getD_eq_getElem?_getD,hx] at hst
   simp at hst
  ·rw [show F114.L4 k (C k) k (I1 a) (I1 b) (a.length:Int) 0=_ from e]
   refine zas (decide_eq_true ?_).symm
   apply List.ext_getElem?
   intro i
   by_cases hi:i < a.length
   ·have:=hst i a[i] (List.getElem?_eq_getElem hi)
    rw [List.getD_eq_getElem?_getD,List.getElem?_eq_getElem (by omega)] at this
    rw [List.getElem?_eq_getElem hi,List.getElem?_eq_getElem (by omega)]
    simpa using this
   ·rw [List.getElem?_eq_none (by omega),List.getElem?_eq_none (by omega)]
 ·rw [ite'_t (by simp;omega)]
  exact zas (decide_eq_false (fun h=>hl (by rw [h]))).symm
theorem zow {b:List Int} {c:Bool} {f:Ovi.Rows→Bool→Option Res}:(za (some [(false,[.row 3 1 (I1 b)]),(false,[.d (.bool c)])]) fun r=>zc (resO 3 1 2 false 1 r 0 0) fun l=>zj (resB 2 false 1 r 1 0) fun d=>f l d)=f (I1 b) c:=rfl
theorem c203 {a:Ovi.Rows} {fs xs:List Atom} (hM:Mok fs xs) (hk:2000000≤k):∀ (m n:Nat),n+m=xs.length→∀ b:List Int,b.length=5→C (k+m+3) 203 [.agg [.d (.list 3 a),.d (.list 2 (A1 fs))],.d (.list 2 (A1 xs)),.d (.int .i64 (n:Int)),.d (.list 1 (I1 b))]=some [(false,[.row 27 1 (LL (mats fs (xs.drop n) b))])]:=by
 have hmax:(1048576:Nat)≤maxLen:=by decide
 intro m
 induction m with
 | zero =>
  intro n hn b hb
  obtain rfl:n=xs.length:=by omega
  rw [F203.run,zo,ite'_t (by simp),zl,ite'_t (zQ (by omega)),List.drop_length]
  rfl
 | succ m ih =>
  intro n hn b hb
  have hnl:n < xs.length:=by omega
  have hx:=List.getElem?_eq_getElem hnl
  have hxm:=List.getElem_mem hnl
  have hx0:=hM.ts _ hxm
  have hf30:=hM.f30
  have hx3:=hM.x3
  have hsub:∀ f,(sub fs (xs.drop (n+1)) xs[n] b f).length≤27000:=fun f=>by
   unfold sub
   cases fitA xs[n] f b with
   | none=>simp
   | some b'=>exact Nat.le_trans (zhc fs _ b') (zmu hf30 (by rw [List.length_drop];omega))
  have main:∀ (p i j:Nat) (acc:BL),i+p=fs.length→p < j→acc.length≤27000 * i →
    F203.L5 (k+m+3) (C (k+m+3)) j (A1 xs) (n:Int) (I1 b) (i:Int) a (A1 fs) (LL acc)=some [(false,[.row 27 1 (LL (acc++(fs.drop i).flatMap (sub fs (xs.drop (n+1)) xs[n] b)))])]:=by
   intro p
   induction p with
   | zero =>
    intro i j acc hm hj ha
    obtain ⟨j,rfl⟩:∃ q,j=q+1:=⟨j - 1,by omega⟩
    obtain rfl:i=fs.length:=by omega
    rw [F203.L5.succ,zo,ite'_f (lt_f (by omega)),List.drop_length]
    simp
   | succ p ihp =>
    intro i j acc hm hj ha
    obtain ⟨j,rfl⟩:∃ q,j=q+1:=⟨j - 1,by omega⟩
    have hi:i < fs.length:=by omega
    have hf:=List.getElem?_eq_getElem hi
    have hfm:=List.getElem_mem hi
    have hsl:=hsub fs[i]
    rw [F203.L5.succ,zo,ite'_t (lt_t hi),zo,ite'_t (zn hnl),zaS hx,zd,zaT hx,zf,ite'_t (zn hi),zaS hf,zd,zaT hf,zf]
    obtain ⟨y,e102,hy⟩:FitT (fitA xs[n] fs[i] b) (C (k+m+3) 229 [.agg [.d (.int .i64 (xs[n]).1),.d (.list 1 (I1 (xs[n]).2))],.agg [.d (.int .i64 (fs[i]).1),.d (.list 1 (I1 (fs[i]).2))],.d (.list 1 (I1 b))]):=c229 (k:=k+m+1) xs[n] fs[i] b hx0.1 (hM.len _ hxm _ hfm) hx0.2 hb (by omega)
    rw [e102,zow,zz hi (m:=fs.length) (by omega),List.drop_eq_getElem_cons hi,List.flatMap_cons]
    cases hfa:fitA xs[n] fs[i] b with
    | none =>
     have hs:sub fs (xs.drop (n+1)) xs[n] b fs[i]=[]:=by unfold sub;rw [hfa];rfl
     rw [hs,List.nil_append,show (none:Option (List Int)).isSome=false from rfl,ite'_f rfl]
     exact ihp (i+1) j acc (by omega) (by omega) (by omega)
    | some b' =>
     have hs:sub fs (xs.drop (n+1)) xs[n] b fs[i]=mats fs (xs.drop (n+1)) b':=by unfold sub;rw [hfa];rfl
     obtain rfl:=hy b' hfa
     have hb':y.length=5:=by rw [zg8 hfa];exact hb
     rw [hs] at hsl ⊢
     have hw:IntKind.i64.wrap ((n:Int)+1)=((n+1:Nat):Int):=zz hnl (m:=xs.length) (by omega)
     rw [show (some y).isSome=true from rfl,ite'_t rfl]
     rw [hw,ih (n+1) (by omega) y hb']
     simp only [zi,zu,zf]
     rw [ite'_t (zQ (by rw [zx,zx];omega)),zjM,← List.append_assoc]
     exact ihp (i+1) j _ (by omega) (by omega) (by rw [List.length_append];omega)
  have:=main fs.length 0 (k+m+3) [] (by omega) (by omega) (by simp)
  rw [List.drop_zero,List.nil_append] at this
  rw [show k+(m+1)+3=(k+m+3)+1 by omega,F203.run,zo,ite'_f (by simp;omega),List.drop_eq_getElem_cons hnl]
  exact this
def tens:List Int:=[10,10,10,10,10]
theorem c184:C (k+2) 184 []=some [(false,[.row 3 1 (I1 tens)])]:=by
 have:C (k+1) 210 [.d (.list 1 [[.int .i64 10]]),.d (.int .i64 5)]=zgr 3 [.d (.list 1 [[.int .i64 10]]),.d (.int .i64 5)]:=by kernel_rfl
 rw [F184.run,this]
 rfl
theorem c204 (hk:100≤k):C (k+2) 204 []=some [(false,[.row 3 1 (I1 tens)])]:=by
 have step:∀ (n:Nat) (l:List Int),l.length < 5→F204.L2 (k+1) (C (k+1)) (n+1) (I1 l)=F204.L2 (k+1) (C (k+1)) n (I1 (l++[10])):=by
  intro n l hl
  have h5:decide (((l.length:Nat):Int) < 5)=true:=by rw [decide_eq_true_eq];omega
  have hf:fits (l.length+[[D.int IntKind.i64 10]].length)=true:=zQ (by simp only [List.length_cons,List.length_nil];omega)
  rw [F204.L2.succ,zl,ite'_t h5,ten,iB',ite'_t hf,zbO]
 obtain ⟨j,rfl⟩:∃ j,k=j+5:=⟨k - 5,by omega⟩
 have e:F204.L2 (j+5+1) (C (j+5+1)) (j+5+1) (I1 [])=F204.L2 (j+5+1) (C (j+5+1)) (j+1) (I1 [10,10,10,10,10]) :=
  (step (j+5) [] (by simp)).trans ((step (j+4) [10] (by simp)).trans ((step (j+3) [10,10] (by simp)).trans ((step (j+2) [10,10,10] (by simp)).trans (step (j+1) [10,10,10,10] (by simp)))))
 have e2:F204.L2 (j+5+1) (C (j+5+1)) (j+1) (I1 [10,10,10,10,10])=some [(false,[.row 3 1 (I1 tens)])]:=by
  rw [F204.L2.succ,zl,ite'_f (by simp)]
  rfl
 rw [F204.run]
 exact e.trans e2
theorem c211 (L:BL) (f:FuncId) (caps:Ovi.Rows) (p:List Int→Bool) (hk:L.length < k) (hz:L.length≤maxLen) (hp:∀ x∈L,C k f (.d (.list 1 (I1 x))::caps.map fun c=>.cap c 0)=bo (p x)):C (k+2) 211 [.d (.list 1 (LL L)),.d (.fn f caps)]=bo (L.any p):=by
 rw [F211.run,F240.run,zx]
 have:=zal (xs:=L) (L:=fun n i=>F240.L2 k (C k) n (LL L) f caps (L.length:Int) i) (stop:=fun _ x=>p x) (hit:=fun i=>some [(false,[.d (.int .i64 (i:Int))])]) (fin:=some [(false,[.d (.int .i64 (-1))])])
  (fun n i x hx=>by
   have hi:=(List.getElem?_eq_some_iff.1 hx).1
   rw [F240.L2.succ,zx,ite'_t (lt_t hi),ite'_t (zn hi),LL_c hx,zf,zz hi hz]
   have:=hp x (List.mem_of_getElem? hx)
   simp only [List.append_eq,List.nil_append] at this ⊢
   rw [this,bB];rfl)
  (fun n=>by rw [F240.L2.succ,ite'_f (lt_f (by omega))]) k hk
 rcases this with ⟨i,x,hx,hst,e⟩ | ⟨hst,e⟩
 ·rw [show F240.L2 k (C k) k (LL L) f caps (L.length:Int) 0=_ from e]
  simp only [zi,zw,zd]
  refine zas ?_
  rw [List.any_eq_true.2 ⟨x,List.mem_of_getElem? hx,hst⟩]
  simp
 ·rw [show F240.L2 k (C k) k (LL L) f caps (L.length:Int) 0=_ from e]
  simp only [zi,zw,zd]
  refine zas ?_
  have:L.any p=false:=by
   rw [List.any_eq_false]
   intro x hx
   obtain ⟨i,hi⟩:=List.mem_iff_getElem?.1 hx
   simpa using hst i x hi
  rw [this];rfl
theorem c185 (L:BL) (z:List Int) (hk:L.length < k) (hz:L.length≤1048576) (hx:∀ x∈L,x.length≤1048576) (hk2:2000000≤k):C (k+5) 185 [.d (.list 1 (LL L)),.d (.list 1 (I1 z))]=bo (decide (z∈L)):=by
 have hmax:(1048576:Nat)≤maxLen:=by decide
 rw [F185.run,c211 (k:=k+2) L 212 [[.list 1 (I1 z)]] (fun x=>decide (x=z)) (by omega) (by omega) (fun x hxm=>by
  have:=hx x hxm
  rw [List.map_cons,List.map_nil,F212.run,c114 (k:=k) x z (by omega) (by omega),bB];rfl),bB]
 refine zas ?_
 rw [Bool.eq_iff_iff]
 simp
theorem l142 (all:BL) (hall:all.length≤27000) (hl:∀ x∈all,x.length=5) (hk:2000000≤k):F142.L5 (k+5) (C (k+5)) (k+5) (all.length:Int) 0 [] (LL all)=some [(false,[.row 27 1 (LL (ded [] all))])]:=by
 have hmax:(1048576:Nat)≤maxLen:=by decide
 have main:∀ (m i n:Nat) (out:BL),i+m=all.length→m < n→out.length≤i→(∀ x∈out,x.length=5)→F142.L5 (k+5) (C (k+5)) n (all.length:Int) (i:Int) (LL out) (LL all)=some [(false,[.row 27 1 (LL (ded out (all.drop i)))])]:=by
  intro m
  induction m with
  | zero =>
   intro i n out hm hn ho hx
   obtain ⟨n,rfl⟩:∃ j,n=j+1:=⟨n - 1,by omega⟩
   obtain rfl:i=all.length:=by omega
   rw [F142.L5.succ,ite'_f (lt_f (by omega)),List.drop_length,ded]
  | succ m ih =>
   intro i n out hm hn ho hx
   obtain ⟨n,rfl⟩:∃ j,n=j+1:=⟨n - 1,by omega⟩
   have hi:i < all.length:=by omega
   have hg:=List.getElem?_eq_getElem hi
   have h5:=hl _ (List.getElem_mem hi)
   rw [F142.L5.succ,ite'_t (lt_t hi),zx,ite'_t (zn hi),LL_c hg,zf,c185 (k:=k) out all[i] (by omega) (by omega) (fun x h=>by rw [hx x h];omega) hk,bB,zz hi (m:=all.length) (by omega),List.drop_eq_getElem_cons hi,ded]
   by_cases hmem:all[i]∈out
   ·rw [decide_eq_true hmem,ite'_nt,if_pos hmem]
    exact ih (i+1) n out (by omega) (by omega) (by omega) hx
   ·rw [decide_eq_false hmem,ite'_nf,if_neg hmem,ite'_t (zQ (by rw [zx];simp;omega)),zdb]
    refine ih (i+1) n _ (by omega) (by omega) (by rw [List.length_append,List.length_singleton];omega) (fun x h=>?_)
    rcases List.mem_append.1 h with h | h
    ·exact hx x h
    ·rw [List.mem_singleton.1 h];exact h5
 exact main all.length 0 (k+5) [] (by omega) (by omega) (Nat.zero_le _) (by simp)
theorem l167 (all:BL) (hall:all.length≤27000) (hl:∀ x∈all,x.length=5) (hk:2000000≤k):F167.L6 (k+1) (C (k+1)) (k+1) 0 [] (LL all)=some [(false,[.row 27 1 (LL (ded [] all))])]:=by
 have hmax:(1048576:Nat)≤maxLen:=by decide
 have inner:∀ (out:BL) (i:Nat) (hi:i < all.length),out.length≤i→(∀ x∈out,x.length=5)→∀ (m j n k6:Nat) (met:Bool),j+m=out.length→m < n →
   F167.L10 (k+1) (C (k+1)) k6 n (i:Int) met (j:Int) (LL out) (LL all)=F167.L6 (k+1) (C (k+1)) k6 ((i+1:Nat):Int) (LL (if met=true∨all[i]∈out.drop j then out else out++[all[i]])) (LL all):=by
  intro out i hi ho hx m
  induction m with
  | zero =>
   intro j n k6 met hm hn
   obtain ⟨n,rfl⟩:∃ q,n=q+1:=⟨n - 1,by omega⟩
   obtain rfl:j=out.length:=by omega
   rw [F167.L10.succ,zx,ite'_f (lt_f (by omega)),List.drop_length,zz hi (m:=all.length) (by omega),zx,LL_c (List.getElem?_eq_getElem hi)]
   cases met with
   | true=>rw [ite'_nt,if_pos (.inl rfl)]
   | false=>rw [ite'_nf,ite'_t (zn hi),zf,ite'_t (zQ (by simp;omega)),if_neg (by simp),zdb]
  | succ m ih =>
   intro j n k6 met hm hn
   obtain ⟨n,rfl⟩:∃ q,n=q+1:=⟨n - 1,by omega⟩
   have hj:j < out.length:=by omega
   have hg:=List.getElem?_eq_getElem hj
   have h5:=hx _ (List.getElem_mem hj)
   rw [F167.L10.succ,zx,ite'_t (lt_t hj),zz hj (m:=out.length) (by omega),List.drop_eq_getElem_cons hj]
   cases met with
   | true =>
    rw [ite'_t rfl,ih (j+1) n k6 true (by omega) (by omega),if_pos (.inl rfl),if_pos (.inl rfl)]
   | false =>
    rw [ite'_f rfl,ite'_t (zn hj),LL_c hg,zf,zx,ite'_t (zn hi),LL_c (List.getElem?_eq_getElem hi),zf,c103 (k:=k) out[j] all[i] (by omega) (by omega),iB',ih (j+1) n k6 _ (by omega) (by omega)]
    congr 2
    by_cases he:out[j]=all[i]
    ·rw [if_pos (.inl (by rw [(zbh _ _).2 he];rfl)),if_pos (.inr (by rw [he];exact List.mem_cons_self))]
    ·have h0:(cmpI out[j] all[i]==0)=false:=by
      rw [beq_eq_false_iff_ne]
      exact fun h=>he ((zbh _ _).1 h)
     rw [h0]
     by_cases hmem:all[i]∈out.drop (j+1)
     ·rw [if_pos (.inr hmem),if_pos (.inr (List.mem_cons_of_mem _ hmem))]
     ·rw [if_neg (by simp [hmem]),if_neg (by
       rintro (h | h)
       ·cases h
       ·rcases List.mem_cons.1 h with h | h
        ·exact he h.symm
        ·exact hmem h)]
 have main:∀ (m i n:Nat) (out:BL),i+m=all.length→m < n→out.length≤i→(∀ x∈out,x.length=5)→F167.L6 (k+1) (C (k+1)) n (i:Int) (LL out) (LL all)=some [(false,[.row 27 1 (LL (ded out (all.drop i)))])]:=by
  intro m
  induction m with
  | zero =>
   intro i n out hm hn ho hx
   obtain ⟨n,rfl⟩:∃ j,n=j+1:=⟨n - 1,by omega⟩
   obtain rfl:i=all.length:=by omega
   rw [F167.L6.succ,zx,ite'_f (lt_f (by omega)),List.drop_length,ded]
  | succ m ih =>
   intro i n out hm hn ho hx
   obtain ⟨n,rfl⟩:∃ j,n=j+1:=⟨n - 1,by omega⟩
   have hi:i < all.length:=by omega
   have h5:=hl _ (List.getElem_mem hi)
   rw [F167.L6.succ,zx,ite'_t (lt_t hi)]
   have:=inner out i hi ho hx out.length 0 (k+1) n false (by omega) (by omega)
   rw [show ((0:Nat):Int)=0 from rfl,List.drop_zero] at this
   rw [this,List.drop_eq_getElem_cons hi,ded]
   by_cases hmem:all[i]∈out
   ·rw [if_pos (.inr hmem),if_pos hmem]
    exact ih (i+1) n out (by omega) (by omega) (by omega) hx
   ·rw [if_neg (by simp [hmem]),if_neg hmem]
    refine ih (i+1) n _ (by omega) (by omega) (by rw [List.length_append,List.length_singleton];omega) (fun x h=>?_)
    rcases List.mem_append.1 h with h | h
    ·exact hx x h
    ·rw [List.mem_singleton.1 h];exact h5
 exact main all.length 0 (k+1) [] (by omega) (by omega) (Nat.zero_le _) (by simp)
end Go.Proofs.YtiacahdabflcdaaGreat.Q
namespace Go.Proofs.YtiacahdabflcdaaGreat.Q
open Go Ovi
variable {k:Nat}
theorem zec:∀ a b:List Int,cmpI a b=cmpL a b
 | [],[]=>rfl
 | [],_::_=>rfl
 | _::_,[]=>rfl
 | x::xs,y::ys=>by
  unfold cmpI cmpL
  rw [zec xs ys]
theorem zhm {p:List Int→Bool} {all:BL} {i:Nat} (hi:i < all.length):(all.take (i+1)).filter p=(all.take i).filter p++(if p all[i] then [all[i]] else []):=by
 rw [List.take_succ_eq_append_getElem hi,List.filter_append]
 congr 1
 cases h:p all[i]<;>simp [h]
theorem l190 (all:BL) (q:List Int) (X:Ovi.Rows) (f:FuncId) (caps:Ovi.Rows) (p:List Int→Bool) (hp:∀ x∈all,C (k+1) f (.d (.list 1 (I1 x))::[].append (caps.map fun c:List D=>.cap c 0))=bo (p x)) (hall:all.length≤27000) (hl:∀ x∈all,x.length=5) (hq:∀ v∈q,0≤v∧v < 5) (hq3:q.length≤3) (hk:2000000≤k) :
  F190.L3 (k+1) (C (k+1)) (k+1) f caps (all.length:Int) 0 (I1 q) X [] (LL all)=some [(false,[.frow 27 1 1 (LL (Lib.compact (zA ((all.filter p).map (proj q)))))])]:=by
 have hmax:(1048576:Nat)≤maxLen:=by decide
 have inner:∀ (out:BL) (i:Nat) (b:List Int),b.length=5→i < all.length→out.length≤i→∀ (m j n k3:Nat),j+m=q.length→m < n →
   F190.L8 (k+1) (C (k+1)) k3 n f caps (I1 b) (all.length:Int) (i:Int) (I1 q) (q.length:Int) (j:Int) (I1 q) X (LL out) (I1 ((q.take j).map fun v=>b.getD v.toNat 0)) (LL all) =
   F190.L3 (k+1) (C (k+1)) k3 f caps (all.length:Int) ((i+1:Nat):Int) (I1 q) X (LL (out++[proj q b])) (LL all):=by
  intro out i b hb hi ho m
  induction m with
  | zero =>
   intro j n k3 hm hn
   obtain ⟨n,rfl⟩:∃ p,n=p+1:=⟨n - 1,by omega⟩
   obtain rfl:j=q.length:=by omega
   rw [F190.L8.succ,ite'_f (lt_f (by omega)),List.take_length,ite'_t (zQ (by rw [zx];simp;omega)),zz hi (m:=all.length) (by omega),zdb]
   rfl
  | succ m ih =>
   intro j n k3 hm hn
   obtain ⟨n,rfl⟩:∃ p,n=p+1:=⟨n - 1,by omega⟩
   have hj:j < q.length:=by omega
   have hg:=List.getElem?_eq_getElem hj
   obtain ⟨h1,h2⟩:=hq _ (List.getElem_mem hj)
   obtain ⟨p,hp⟩:∃ p:Nat,q[j]=(p:Int):=⟨q[j].toNat,by omega⟩
   have hp5:p < b.length:=by omega
   have hbp:b[p]? = some (b.getD p 0):=by rw [List.getD_eq_getElem?_getD,List.getElem?_eq_getElem hp5];rfl
   have:=ih (j+1) n k3 (by omega) (by omega)
   rw [List.take_succ_eq_append_getElem hj,List.map_append] at this
   rw [F190.L8.succ,ite'_t (lt_t hj),zl,ite'_t (zn hj),I1_c hg,zd,hp,zl,ite'_t (zn hp5),I1_c hbp,zd,zl,ite'_t (zQ (by simp only [List.length_map,List.length_take,List.length_cons,List.length_nil];omega)),zz hj (m:=q.length) (by omega),zbO,← this]
   rw [List.map_cons,List.map_nil,hp,Int.toNat_natCast]
 have main:∀ (m i n:Nat),i+m=all.length→m < n→F190.L3 (k+1) (C (k+1)) n f caps (all.length:Int) (i:Int) (I1 q) X (LL (((all.take i).filter p).map (proj q))) (LL all)=some [(false,[.frow 27 1 1 (LL (Lib.compact (zA ((all.filter p).map (proj q)))))])]:=by
  intro m
  induction m with
  | zero =>
   intro i n hm hn
   obtain ⟨n,rfl⟩:∃ j,n=j+1:=⟨n - 1,by omega⟩
   obtain rfl:i=all.length:=by omega
   rw [List.take_length]
   have hfl:(all.filter p).length≤all.length:=List.length_filter_le _ _
   have e75:C (k+1) 62 [.var 0 0,.d (.int .i64 27),.d (.list 1 (LL ((all.filter p).map (proj q))))]=some [(false,[.frow 27 1 1 (LL (Lib.compact (zA ((all.filter p).map (proj q)))))]),(true,[])]:=by
    have:C (k+1) 62 [.var 0 0,.d (.int .i64 27),.d (.list 1 (LL ((all.filter p).map (proj q))))]=zbF [.var 0 0,.d (.int .i64 27),.d (.list 1 (LL ((all.filter p).map (proj q))))]:=by kernel_rfl
    rw [this]
    unfold zbF zbS
    simp only [zhb,Option.bind_some]
    rw [show (Nat.ble ((all.filter p).map (proj q)).length 1099511627776&&((all.filter p).map (proj q)).all fun z=>Nat.ble z.length 1099511627776)=true by
     rw [Bool.and_eq_true,List.all_eq_true]
     refine ⟨Nat.ble_eq_true_of_le (by rw [List.length_map];omega),fun z hz=>Nat.ble_eq_true_of_le ?_⟩
     obtain ⟨x,_,rfl⟩:=List.mem_map.1 hz
     simp only [proj,List.length_map];omega]
    simp only [cond_true,Option.bind_some]
    rw [decide_eq_true (zjl _)]
    rfl
   rw [F190.L3.succ,ite'_f (lt_f (by omega)),e75]
   rfl
  | succ m ih =>
   intro i n hm hn
   obtain ⟨n,rfl⟩:∃ j,n=j+1:=⟨n - 1,by omega⟩
   have hi:i < all.length:=by omega
   have hg:=List.getElem?_eq_getElem hi
   have h5:=hl _ (List.getElem_mem hi)
   have hfl:((all.take i).filter p).length≤(all.take i).length:=List.length_filter_le _ _
   rw [List.length_take] at hfl
   have hnx:=ih (i+1) n (by omega) (by omega)
   rw [zhm hi] at hnx
   rw [F190.L3.succ,ite'_t (lt_t hi),zx,ite'_t (zn hi),LL_c hg,zf,hp _ (List.getElem_mem hi),bB]
   cases hpi:p all[i] with
   | false =>
    rw [hpi] at hnx
    simp only [Bool.false_eq_true,if_false,List.append_nil] at hnx
    rw [ite'_nf,zz hi (m:=all.length) (by omega)]
    exact hnx
   | true =>
    rw [hpi] at hnx
    simp only [if_true,List.map_append,List.map_cons,List.map_nil] at hnx
    rw [ite'_nt,zl]
    have:=inner (((all.take i).filter p).map (proj q)) i all[i] h5 hi (by rw [List.length_map];omega) q.length 0 (k+1) n (by omega) (by omega)
    rw [List.take_zero,List.map_nil,show ((0:Nat):Int)=0 from rfl] at this
    rw [show F190.L8 (k+1) (C (k+1)) n (k+1) f caps (I1 all[i]) (all.length:Int) (i:Int) (I1 q) (q.length:Int) 0 (I1 q) X (LL (((all.take i).filter p).map (proj q))) [] (LL all)=_ from this]
    exact hnx
 exact main all.length 0 (k+1) (by omega) (by omega)
theorem c57 (l:BL) (row:List Int) (hs:SSL l) (hl:l.length≤27000) (hx:∀ x∈l,x.length≤3) (hk:2000000≤k) :
  ∃ r ws,C (k+2) 57 [.d (.list 1 (LL l)),.d (.list 1 (I1 row))]=some r∧resL 1 1 false 1 r 0 0=some (LL ws)∧(∀ z,z∈ws↔z∈l∨z=row)∧ws.length≤l.length+1∧SSL ws:=by
 have hmax:(1048576:Nat)≤maxLen:=by decide
 rw [F57.run]
 have ins:∀ i:Nat,i≤l.length→row ∉ l→(∀ j y,j < i→l[j]? = some y→ltL y row=true)→(∀ y,l[i]? = some y→ltL y row=false)→∃ r ws,(ite' (inS (i:Int) ((LL l).length:Int) (LL l).length) (ite' (fits ([[D.list 1 (I1 row)]].length+(List.drop (i:Int).toNat (LL l)).length)) (ite' (inS (0:Int) (i:Int) (LL l).length) (ite' (fits (List.take (i:Int).toNat (LL l)).length) (ite' (fits ((List.take (i:Int).toNat (LL l)).length+List.length ([[D.list 1 (I1 row)]]++List.drop (i:Int).toNat (LL l)))) (some ([(false,[RL.row 27 1 (List.take (i:Int).toNat (LL l)++([[D.list 1 (I1 row)]]++List.drop (i:Int).toNat (LL l)))])])) (none)) (none)) (none)) (none)) (none))=some r∧resL 1 1 false 1 r 0 0=some (LL ws)∧(∀ z,z∈ws↔z∈l∨z=row)∧ws.length≤l.length+1∧SSL ws:=by
  intro i hi hnm hlt hge
  rw [Int.toNat_natCast,zx,ite'_t (by simp only [inS,decide_eq_true_eq];omega),ite'_t (zQ (by rw [List.length_drop,zx];simp;omega)),ite'_t (by simp only [inS,decide_eq_true_eq];omega),ite'_t (zQ (by rw [List.length_take,zx];omega)),ite'_t (zQ (by rw [List.length_take,List.length_append,List.length_drop,zx];simp;omega))]
  refine ⟨_,l.take i++(row::l.drop i),rfl,?_,fun z=>?_,?_,zll hs hnm hlt hge⟩
  ·rw [zh1]
   simp [LL]
  ·rw [List.mem_append,List.mem_cons]
   have:z∈l↔z∈l.take i∨z∈l.drop i:=by rw [← List.mem_append,List.take_append_drop]
   rw [this]
   constructor
   ·rintro (h | h | h)
    ·exact .inl (.inl h)
    ·exact .inr h
    ·exact .inl (.inr h)
   ·rintro ((h | h) | h)
    ·exact .inl h
    ·exact .inr (.inr h)
    ·exact .inr (.inl h)
  ·simp only [List.length_append,List.length_cons,List.length_take,List.length_drop];omega
 have nin:∀ i:Nat,i≤l.length→(∀ j y,j < i→l[j]? = some y→ltL y row=true)→(∀ y,l[i]? = some y→ltL row y=true)→row ∉ l:=by
  intro i hi h1 h2 hm
  obtain ⟨j,hj⟩:=List.mem_iff_getElem?.1 hm
  by_cases hji:j < i
  ·exact zdy (h1 j row hji hj) rfl
  ·have hjl:=(List.getElem?_eq_some_iff.1 hj).1
   have e:=(List.getElem?_eq_some_iff.1 hj).2
   have h3:=h2 l[i] (List.getElem?_eq_getElem (by omega))
   by_cases hij:i=j
   ·subst hij
    rw [e] at h3
    exact zdy h3 rfl
   ·have:=List.pairwise_iff_getElem.1 hs i j (by omega) hjl (by omega)
    rw [e] at this
    rw [zfP this] at h3
    cases h3
 have main:∀ (m i n:Nat),i+m=l.length→m < n→(∀ j y,j < i→l[j]? = some y→ltL y row=true)→∃ r ws,F57.L2 (k+1) (C (k+1)) n (LL l) (I1 row) (i:Int)=some r∧resL 1 1 false 1 r 0 0=some (LL ws)∧(∀ z,z∈ws↔z∈l∨z=row)∧ws.length≤l.length+1∧SSL ws:=by
  intro m
  induction m with
  | zero =>
   intro i n hm hn hlt
   obtain ⟨n,rfl⟩:∃ j,n=j+1:=⟨n - 1,by omega⟩
   obtain rfl:i=l.length:=by omega
   have hno:∀ y,l[l.length]? = some y→False:=fun y h=>by rw [List.getElem?_eq_none (Nat.le_refl _)] at h;cases h
   have h0:decide (((l.length:Nat):Int) < ((LL l).length:Int))=false:=by rw [zx];exact lt_f (by omega)
   rw [F57.L2.succ,h0,ite'_f rfl,ite'_f rfl]
   exact ins l.length (Nat.le_refl _) (nin l.length (Nat.le_refl _) hlt fun y h=>(hno y h).elim) hlt fun y h=>(hno y h).elim
  | succ m ih =>
   intro i n hm hn hlt
   obtain ⟨n,rfl⟩:∃ j,n=j+1:=⟨n - 1,by omega⟩
   have hi:i < l.length:=by omega
   have hg:=List.getElem?_eq_getElem hi
   have hxl:=hx _ (List.getElem_mem hi)
   have h0:decide ((i:Int) < ((LL l).length:Int))=true:=by rw [zx];exact lt_t hi
   have h1:inR (i:Int) (LL l).length=true:=by rw [zx];exact zn hi
   rw [F57.L2.succ,h0,ite'_t rfl,h1,ite'_t rfl,LL_c hg,zf,c103 (k:=k) l[i] row (by omega) (by omega),iB']
   by_cases hc:cmpI l[i] row < 0
   ·rw [ite'_t (by simpa using hc),zz hi (m:=l.length) (by omega)]
    refine ih (i+1) n (by omega) (by omega) fun j y hj hy=>?_
    by_cases hji:j=i
    ·subst hji
     rw [hg] at hy
     cases hy
     rw [zec] at hc
     exact decide_eq_true hc
    ·exact hlt j y (by omega) hy
   ·rw [ite'_f (by simpa using hc),ite'_t rfl,ite'_t rfl,zf,c103 (k:=k) l[i] row (by omega) (by omega),iB']
    by_cases he:cmpI l[i] row=0
    ·rw [ite'_t (by simpa using he)]
     refine ⟨_,l,rfl,zbB _ _,fun z=>?_,by omega,hs⟩
     constructor
     ·exact fun h=>.inl h
     ·rintro (h | rfl)
      ·exact h
      ·rw [← (zbh _ _).1 he];exact List.getElem_mem hi
    ·rw [ite'_f (by simpa using he)]
     have hge:ltL l[i] row=false:=by
      rw [zec] at hc
      exact decide_eq_false hc
     have hgt:ltL row l[i]=true:=by
      rcases zgo l[i] row with h | h | h
      ·rw [h] at hge;cases hge
      ·exact absurd ((zbh _ _).2 h) he
      ·exact h
     exact ins i (by omega) (nin i (by omega) hlt fun y hy=>by rw [hg] at hy;cases hy;exact hgt) hlt fun y hy=>by rw [hg] at hy;cases hy;exact hge
 exact main l.length 0 (k+1) (by omega) (by omega) (fun j y hj=>by omega)
theorem l158 (all:BL) (q:List Int) (X:Ovi.Rows) (hall:all.length≤27000) (hl:∀ x∈all,x.length=5) (hq:∀ v∈q,0≤v∧v < 5) (hq3:q.length≤3) (hk:2000000≤k) :
  ∃ ws,F158.L6 (k+2) (C (k+2)) (k+2) [] 0 (I1 q) X (LL all)=some [(false,[.d (.list 1 (LL ws))])]∧(∀ z,z∈ws↔z∈all.map (proj q))∧ws.length≤27000∧SSL ws:=by
 have hmax:(1048576:Nat)≤maxLen:=by decide
 have inner:∀ (out:BL) (i:Nat) (hi:i < all.length),∀ (m j n k6:Nat),j+m=q.length→m < n →
   F158.L10 (k+2) (C (k+2)) k6 n (LL out) (i:Int) (j:Int) (I1 q) X (LL all) (I1 ((q.take j).map fun v=>(all[i]).getD v.toNat 0)) =
   za (C (k+2) 57 [.d (.list 1 (LL out)),.d (.list 1 (I1 (proj q all[i])))]) fun r15=>zc (resL 1 1 false 1 r15 0 0) fun l14=>F158.L6 (k+2) (C (k+2)) k6 l14 ((i+1:Nat):Int) (I1 q) X (LL all):=by
  intro out i hi m
  induction m with
  | zero =>
   intro j n k6 hm hn
   obtain ⟨n,rfl⟩:∃ p,n=p+1:=⟨n - 1,by omega⟩
   obtain rfl:j=q.length:=by omega
   rw [F158.L10.succ,zl,ite'_f (lt_f (by omega)),List.take_length,zz hi (m:=all.length) (by omega)]
   rfl
  | succ m ih =>
   intro j n k6 hm hn
   obtain ⟨n,rfl⟩:∃ p,n=p+1:=⟨n - 1,by omega⟩
   have hj:j < q.length:=by omega
   have hg:=List.getElem?_eq_getElem hj
   have hb:=hl _ (List.getElem_mem hi)
   obtain ⟨h1,h2⟩:=hq _ (List.getElem_mem hj)
   obtain ⟨p,hp⟩:∃ p:Nat,q[j]=(p:Int):=⟨q[j].toNat,by omega⟩
   have hp5:p < (all[i]).length:=by omega
   have hbp:(all[i])[p]? = some ((all[i]).getD p 0):=by rw [List.getD_eq_getElem?_getD,List.getElem?_eq_getElem hp5];rfl
   have:=ih (j+1) n k6 (by omega) (by omega)
   rw [List.take_succ_eq_append_getElem hj,List.map_append] at this
   rw [F158.L10.succ,zl,ite'_t (lt_t hj),zx,ite'_t (zn hi),LL_c (List.getElem?_eq_getElem hi),zf,ite'_t (zn hj),I1_c hg,zd,hp,zl,ite'_t (zn hp5),I1_c hbp,zd,zl,ite'_t (zQ (by simp only [List.length_map,List.length_take,List.length_cons,List.length_nil];omega)),zz hj (m:=q.length) (by omega),zbO,← this]
   rw [List.map_cons,List.map_nil,hp,Int.toNat_natCast]
 have main:∀ (m i n:Nat) (acc:BL),i+m=all.length→m < n→acc.length≤i→(∀ x∈acc,x.length≤3)→SSL acc→∃ ws,F158.L6 (k+2) (C (k+2)) n (LL acc) (i:Int) (I1 q) X (LL all)=some [(false,[.d (.list 1 (LL ws))])]∧(∀ z,z∈ws↔z∈acc∨z∈(all.drop i).map (proj q))∧ws.length≤27000∧SSL ws:=by
  intro m
  induction m with
  | zero =>
   intro i n acc hm hn ha hx hsa
   obtain ⟨n,rfl⟩:∃ j,n=j+1:=⟨n - 1,by omega⟩
   obtain rfl:i=all.length:=by omega
   rw [F158.L6.succ,zx,ite'_f (lt_f (by omega)),List.drop_length]
   exact ⟨acc,rfl,by simp,by omega,hsa⟩
  | succ m ih =>
   intro i n acc hm hn ha hx hsa
   obtain ⟨n,rfl⟩:∃ j,n=j+1:=⟨n - 1,by omega⟩
   have hi:i < all.length:=by omega
   obtain ⟨r,ws,e1,e2,e3,e4,e5⟩:=c57 (k:=k) acc (proj q all[i]) hsa (by omega) hx hk
   have:=inner acc i hi q.length 0 (k+2) n (by omega) (by omega)
   rw [List.take_zero,List.map_nil,show ((0:Nat):Int)=0 from rfl,e1,zi,e2,zf] at this
   rw [F158.L6.succ,zx,ite'_t (lt_t hi),show F158.L10 (k+2) (C (k+2)) n (k+2) (LL acc) (i:Int) 0 (I1 q) X (LL all) []=_ from this]
   obtain ⟨ws2,g1,g2,g3,g4⟩:=ih (i+1) n ws (by omega) (by omega) (by omega) (fun x h=>by
    rcases (e3 x).1 h with h | rfl
    ·exact hx x h
    ·simp only [proj,List.length_map];omega) e5
   refine ⟨ws2,g1,fun z=>?_,g3,g4⟩
   rw [g2,e3,List.drop_eq_getElem_cons hi,List.map_cons,List.mem_cons]
   constructor
   ·rintro ((h | h) | h)
    ·exact .inl h
    ·exact .inr (.inl h)
    ·exact .inr (.inr h)
   ·rintro (h | h | h)
    ·exact .inl (.inl h)
    ·exact .inl (.inr h)
    ·exact .inr h
 obtain ⟨ws,g1,g2,g3,g4⟩:=main all.length 0 (k+2) [] (by omega) (by omega) (Nat.zero_le _) (by simp) List.Pairwise.nil
 exact ⟨ws,g1,fun z=>by rw [g2];simp,g3,g4⟩
end Go.Proofs.YtiacahdabflcdaaGreat.Q
namespace Go.Proofs.YtiacahdabflcdaaGreat.Q
open Go Ovi
variable {k:Nat}
theorem c136 {a:Ovi.Rows} {xs:List Atom} {valid:Atom→Bool} (hv:zco a xs valid) (hk:2000000≤k) (ha:a.length≤1048576) (hs:zC xs+xs.length≤1048576) :
  C (k+9) 136 [.d (.list 3 a),.d (.list 2 (A1 xs)),.d (.int .i64 3)]=bo (decide ((1:Int)≤(xs.length:Int)∧(xs.length:Int)≤3)&&xs.all valid):=by
 have hmax:(1048576:Nat)≤maxLen:=by decide
 rw [F136.run,c128,bB,zo]
 cases decide ((1:Int)≤(xs.length:Int)∧(xs.length:Int)≤3) with
 | false=>rfl
 | true =>
  rw [ite'_t rfl,c139 (k:=k+6) xs 178 [[.list 3 a]] (fun x=>!valid x) (by omega) (by omega) (fun x hx=>by
   have:=zab hx
   rw [List.map_cons,List.map_nil,F178.run,(hv x hx k (by omega) (by omega)).1,bB];rfl),bB]
  exact zas (zbv xs valid)
structure Qok (a:Ovi.Rows) (fs xs:List Atom) (valid:Atom→Bool) (ib:Bool):Prop where
 ha:a.length≤1048576
 hs:zC xs+xs.length≤1048576
 hv:zco a xs valid
 h1:1≤xs.length
 h3:xs.length≤3
 all:∀ x∈xs,valid x=true
 inst:∀ k,2000000≤k→C (k+8) 40 [.agg [.d (.list 3 a),.d (.list 2 (A1 fs))]]=bo ib∧C (k+8) 58 [.agg [.d (.list 3 a),.d (.list 2 (A1 fs))]]=bo ib
 mok:ib=true→Mok fs xs
variable {a:Ovi.Rows} {fs xs:List Atom} {valid:Atom→Bool} {ib:Bool}
theorem c182 (h:Qok a fs xs valid ib) (hk:2000000≤k):C (k+15) 182 [.agg [.d (.list 3 a),.d (.list 2 (A1 fs))],.d (.list 2 (A1 xs))]=bo ib:=by
 rw [F182.run,(h.inst (k+6) (by omega)).1,bB]
 cases ib with
 | false=>rfl
 | true =>
  have:=h.h1
  have h13:decide ((1:Int)≤(xs.length:Int)∧(xs.length:Int)≤3)=true:=decide_eq_true (by have:=h.h3;omega)
  rw [ite'_t rfl,zo,ite'_f (beq_eq_false_iff_ne.2 (by omega)),c136 (k:=k+5) h.hv (by omega) h.ha h.hs,bB,h13,List.all_eq_true.2 h.all]
  rfl
theorem c202 (h:Qok a fs xs valid ib) (hk:2000000≤k):C (k+16) 202 [.agg [.d (.list 3 a),.d (.list 2 (A1 fs))],.d (.list 2 (A1 xs))]=bo ib:=by
 have hmax:(1048576:Nat)≤maxLen:=by decide
 have h3:=h.h3
 rw [F202.run]
 have:=zbd (xs:=xs) (L:=fun n i=>F202.L2 (k+15) (C (k+15)) n (A1 xs) i a (A1 fs)) (stop:=fun x=>!valid x) (hit:=bo false) (fin:=bo ib)
  (fun n i x hx=>by
   have hi:=(List.getElem?_eq_some_iff.1 hx).1
   have hxm:=List.mem_of_getElem? hx
   have hl:=zab hxm
   have hs:=h.hs
   have ha:=h.ha
   rw [F202.L2.succ,zo,ite'_t (lt_t hi),ite'_t (zn hi),zaS hx,zd,zaT hx,zf,(h.hv x hxm (k+10) (by omega) (by omega)).2,bB,zz hi (m:=xs.length) (by omega)];rfl)
  (fun n=>by
   rw [F202.L2.succ,zo,ite'_f (lt_f (by omega)),(h.inst (k+7) (by omega)).2,bB]
   cases ib with
   | false=>rfl
   | true=>rw [ite'_t rfl,decide_eq_true (by omega)];rfl) (k+15) (by omega)
 rw [show F202.L2 (k+15) (C (k+15)) (k+15) (A1 xs) 0 a (A1 fs)=_ from this]
 have hf:(xs.any fun x=>!valid x)=false:=by
  rw [List.any_eq_false]
  intro x hx
  rw [h.all x hx];decide
 rw [hf];rfl
def mtc (fs xs:List Atom):BL:=ded [] (mats fs xs tens)
theorem zeV (h:Mok fs xs):(mats fs xs tens).length≤27000∧∀ x∈mats fs xs tens,x.length=5:=⟨h.lens tens,fun x hx=>by rw [zkl fs xs tens x hx];rfl⟩
theorem zeY (h:Mok fs xs):(mtc fs xs).length≤27000∧∀ x∈mtc fs xs,x.length=5:=by
 obtain ⟨h1,h2⟩:=zeV h
 unfold mtc
 refine ⟨?_,fun x hx=>?_⟩
 ·have:=zk1 (mats fs xs tens) []
  simp only [List.length_nil] at this
  omega
 ·rcases (zgg _ _ _).1 hx with h | h
  ·cases h
  ·exact h2 x h
def mtr (ib:Bool) (fs xs:List Atom):Option Res:=cond ib (some [(false,[.row 27 1 (LL (mtc fs xs))])]) (some [(false,[.nil])])
theorem c142 (h:Qok a fs xs valid ib) (hk:2000000≤k):C (k+16) 142 [.agg [.d (.list 3 a),.d (.list 2 (A1 fs))],.d (.list 2 (A1 xs))]=mtr ib fs xs:=by
 rw [F142.run,c182 h hk,bB]
 cases ib with
 | false=>rfl
 | true =>
  have hm:=h.mok rfl
  have h3:=h.h3
  obtain ⟨h1,h2⟩:=zeV hm
  obtain ⟨j,hj,hj2⟩:∃ j,k+15=j+xs.length+3∧2000000≤j:=⟨k+12 - xs.length,by omega,by omega⟩
  have e105:C (k+15) 183 [.d (.list 2 (A1 fs)),.d (.list 2 (A1 xs)),.d (.list 1 (I1 tens))]=some [(false,[.row 27 1 (LL (mats fs xs tens))])]:=by
   rw [hj];exact c183 hj2 xs hm tens rfl
  rw [ite'_nt,c184 (k:=k+13)]
  simp only [zi,zu,zf]
  rw [e105]
  simp only [zi,zu,zf]
  rw [zx]
  exact l142 (k:=k+10) _ h1 h2 (by omega)
theorem c167 (h:Qok a fs xs valid ib) (hk:2000000≤k):C (k+17) 167 [.agg [.d (.list 3 a),.d (.list 2 (A1 fs))],.d (.list 2 (A1 xs))]=mtr ib fs xs:=by
 rw [F167.run,c202 h hk,bB]
 cases ib with
 | false=>rfl
 | true =>
  have hm:=h.mok rfl
  have h3:=h.h3
  obtain ⟨h1,h2⟩:=zeV hm
  have e71:C (k+16) 203 [.agg [.d (.list 3 a),.d (.list 2 (A1 fs))],.d (.list 2 (A1 xs)),.d (.int .i64 0),.d (.list 1 (I1 tens))]=some [(false,[.row 27 1 (LL (mats fs xs tens))])]:=by
   have:=c203 (a:=a) hm (k:=k+13 - xs.length) (by omega) xs.length 0 (by omega) tens rfl
   rw [show k+13 - xs.length+xs.length+3=k+16 by omega] at this
   exact this
  rw [ite'_nt,c204 (k:=k+14) (by omega)]
  simp only [zi,zu,zf]
  rw [e71]
  simp only [zi,zu,zf]
  exact l167 (k:=k+15) _ h1 h2 (by omega)
def ans (p:List Int→Bool) (ib:Bool) (fs xs:List Atom) (q:List Int):BL:=cond ib (((mtc fs xs).filter p).map (proj q)) []
theorem zh2:resO 27 1 1 false 1 [(false,[RL.nil])] 0 0=some []:=rfl
theorem zlO:resL 1 1 false 1 [(false,[RL.nil])] 0 0=some []:=rfl
theorem c190 (h:Qok a fs xs valid ib) (q:List Int) (hq:∀ v∈q,0≤v∧v < 5) (hq3:q.length≤3) (hk:2000000≤k) (f:FuncId) (caps:Ovi.Rows) (p:List Int→Bool) (hp:∀ x∈mtc fs xs,ib=true→C (k+16) f (.d (.list 1 (I1 x))::[].append (caps.map fun c:List D=>.cap c 0))=bo (p x)) :
  C (k+17) 190 [.agg [.d (.list 3 a),.d (.list 2 (A1 fs))],.agg [.d (.list 1 (I1 q)),.d (.list 2 (A1 xs))],.d (.fn f caps)]=some [(false,[.frow 27 1 1 (LL (Lib.compact (zA (ans p ib fs xs q))))])]:=by
 rw [F190.run,c142 h hk]
 unfold mtr ans
 cases ib with
 | false =>
  simp only [cond_false,zi,zh2,zf]
  exact l190 (k:=k+15) [] q (A1 xs) f caps p (by simp) (by simp) (by simp) hq hq3 (by omega)
 | true =>
  obtain ⟨h1,h2⟩:=zeY (h.mok rfl)
  simp only [cond_true,zi,zu,zf]
  rw [zx]
  exact l190 (k:=k+15) (mtc fs xs) q (A1 xs) f caps p (fun x hx=>hp x hx rfl) h1 h2 hq hq3 (by omega)
theorem l158' (h:Qok a fs xs valid ib) (q:List Int) (hq:∀ v∈q,0≤v∧v < 5) (hq3:q.length≤3) (hk:2000000≤k):∃ ws,(za (C (k+17) 167 [.agg [.d (.list 3 a),.d (.list 2 (A1 fs))],.d (.list 2 (A1 xs))]) fun r8=>zc (resO 27 1 1 false 1 r8 0 0) fun l60=>F158.L6 (k+17) (C (k+17)) (k+17) [] 0 (I1 q) (A1 xs) l60)=some [(false,[.d (.list 1 (LL ws))])]∧(∀ z,z∈ws↔z∈ans (fun _=>true) ib fs xs q)∧ws.length≤27000∧SSL ws:=by
 rw [c167 h hk]
 unfold mtr ans
 cases ib with
 | false =>
  simp only [cond_false,zi,zh2,zf]
  exact l158 (k:=k+15) [] q (A1 xs) (by simp) (by simp) hq hq3 (by omega)
 | true =>
  obtain ⟨h1,h2⟩:=zeY (h.mok rfl)
  simp only [cond_true,zi,zu,zf]
  rw [show (mtc fs xs).filter (fun _=>true)=mtc fs xs from List.filter_eq_self.2 fun _ _=>rfl]
  exact l158 (k:=k+15) (mtc fs xs) q (A1 xs) h1 h2 hq hq3 (by omega)
theorem znM (p:List Int→Bool) (hm:ib=true→Mok fs xs) (q:List Int):(ans p ib fs xs q).length≤27000∧∀ x∈ans p ib fs xs q,x.length=q.length:=by
 unfold ans
 cases ib with
 | false=>simp
 | true =>
  obtain ⟨h1,h2⟩:=zeY (hm rfl)
  have hfl:((mtc fs xs).filter p).length≤(mtc fs xs).length:=List.length_filter_le _ _
  refine ⟨by rw [cond_true,List.length_map];omega,fun x hx=>?_⟩
  obtain ⟨b,_,rfl⟩:=List.mem_map.1 hx
  simp [proj]
theorem set_mem' {b:List Int} {i:Nat} {v z:Int} (h:z∈b.set i v):z∈b∨z=v:=List.mem_or_eq_of_mem_set h
theorem zk3:∀ (ts vs b b':List Int),fitS ts vs b=some b'→∀ z∈b',z∈b∨z∈vs
 | [],_,b,b',h,z,hz=>by simp only [fitS] at h;cases h;exact .inl hz
 | t::ts,[],b,b',h,z,hz=>by simp only [fitS] at h;cases h;exact .inl hz
 | t::ts,v::vs,b,b',h,z,hz=>by
  have go:∀ b1,fitS ts vs b1=some b'→(∀ y∈b1,y∈b∨y=v)→z∈b∨z∈v::vs:=fun b1 h1 h2=>by
   rcases zk3 ts vs b1 b' h1 z hz with h | h
   ·rcases h2 z h with h | rfl
    ·exact .inl h
    ·exact .inr List.mem_cons_self
   ·exact .inr (List.mem_cons_of_mem _ h)
  rw [fitS] at h
  split at h
  ·split at h
   ·exact go b h fun y hy=>.inl hy
   ·cases h
  ·split at h
   ·exact go _ h fun y hy=>set_mem' hy
   ·split at h
    ·exact go b h fun y hy=>.inl hy
    ·cases h
theorem ziD (fs:List Atom):∀ (xs:List Atom) (b c:List Int),c∈mats fs xs b→∀ z∈c,z∈b∨∃ f∈fs,z∈f.2
 | [],b,c,h,z,hz=>by rw [mats,List.mem_singleton] at h;subst h;exact .inl hz
 | x::xs,b,c,h,z,hz=>by
  rw [mats,List.mem_flatMap] at h
  obtain ⟨f,hf,hc⟩:=h
  cases hb:fitA x f b with
  | none=>rw [hb] at hc;simp at hc
  | some b' =>
   rw [hb] at hc
   rcases ziD fs xs b' c (by simpa using hc) z hz with h | h
   ·unfold fitA at hb
    split at hb
    ·rcases zk3 _ _ _ _ hb z h with h | h
     ·exact .inl h
     ·exact .inr ⟨f,hf,h⟩
    ·cases hb
   ·exact .inr h
theorem zon (p:List Int→Bool) (hI:∀ x∈fs,∀ z∈x.2,inI z) (q:List Int):∀ x∈ans p ib fs xs q,∀ z∈x,inI z:=by
 intro x hx z hz
 unfold ans at hx
 cases ib with
 | false=>cases hx
 | true =>
  obtain ⟨b,hb,rfl⟩:=List.mem_map.1 hx
  replace hb:=(List.mem_filter.1 hb).1
  unfold mtc at hb
  rcases (zgg _ _ _).1 hb with h | h
  ·cases h
  ·obtain ⟨v,_,rfl⟩:=List.mem_map.1 hz
   rw [List.getD_eq_getElem?_getD]
   cases hg:b[v.toNat]? with
   | none=>exact ⟨by decide,by decide⟩
   | some y =>
    rcases ziD fs xs tens b h y (List.mem_of_getElem? hg) with h | ⟨f,hf,h⟩
    ·have:y=10:=by simpa [tens] using h
     subst this
     exact ⟨by decide,by decide⟩
    ·exact hI f hf y h
structure Good3 (ws:BL):Prop where
 ss:SSL ws
 len:ws.length≤27000
 short:∀ x∈ws,x.length≤3
 int:∀ x∈ws,∀ z∈x,inI z
theorem qok {a:Ovi.Rows} (ha:Fit Rl (.list 3 a)) {fs xs:List Atom} {q:List Int} {valid:Atom→Bool} {ib:Bool} (hval:∀ x∈xs,valid x=true→(0≤x.1∧x.1 < (a.length:Int))∧(x.2.length:Int)=ar a x.1∧∀ t∈x.2, -10≤t∧t≤4) (hv:zco a xs valid)
  (hib:ib=true→fs.length≤30∧∀ x∈fs,(0≤x.1∧x.1 < (a.length:Int))∧(x.2.length:Int)=ar a x.1) (hinst:∀ k,2000000≤k→C (k+8) 40 [.agg [.d (.list 3 a),.d (.list 2 (A1 fs))]]=bo ib∧C (k+8) 58 [.agg [.d (.list 3 a),.d (.list 2 (A1 fs))]]=bo ib)
  (hal:a.length≤1048576) (hs:zC xs+xs.length≤1048576) (h:qOk valid xs q=true):Qok a fs xs valid ib∧(∀ v∈q,0≤v∧v < 5)∧q.length≤3:=by
 unfold qOk at h
 simp only [Bool.and_eq_true,decide_eq_true_eq,List.all_eq_true] at h
 obtain ⟨⟨⟨h1,h2⟩,h3⟩,h4,h5⟩:=h
 have hvar:∀ v∈q,zZ xs v:=fun v hvm=>by
  have:=h5 v hvm
  unfold vB at this
  exact @of_decide_eq_true _ (Classical.propDecidable _) this
 refine ⟨⟨hal,hs,hv,by omega,by omega,h3,hinst,fun hb=>?_⟩,fun v hvm=>?_,by omega⟩
 ·obtain ⟨g1,g2⟩:=hib hb
  refine ⟨g1,by omega,fun x hx=>⟨(hval x hx (h3 x hx)).2.2,by have:=zab hx;omega⟩,fun x hx f hf hxf=>?_⟩
  have p1:=(hval x hx (h3 x hx)).2.1
  have p2:=(g2 f hf).2
  rw [← hxf] at p2
  omega
 ·obtain ⟨g1,x,hx,hz⟩:=hvar v hvm
  have:=(hval x hx (h3 x hx)).2.2 v hz
  omega
theorem zlN:resF 27 1 1 1 false 1 [(false,[RL.nil])] 0 0=some []:=rfl
theorem zkd:Good3 []:=⟨List.Pairwise.nil,by simp,by simp,by simp⟩
theorem zmU (p:List Int→Bool) (hm:ib=true→Mok fs xs) (hI:∀ x∈fs,∀ z∈x.2,inI z) (q:List Int) (hq3:q.length≤3):Good3 (Lib.compact (zA (ans p ib fs xs q))):=by
 obtain ⟨k1,k2⟩:=znM p hm q
 have hml:∀ x,x∈Lib.compact (zA (ans p ib fs xs q))↔x∈ans p ib fs xs q:=fun x=>by rw [zbz,zbM]
 have hcl:=zbx (zA (ans p ib fs xs q))
 rw [zbg] at hcl
 exact ⟨zbT _,by omega,fun x hx=>by rw [k2 x ((hml x).1 hx)];exact hq3,fun x hx=>zon p hI q x ((hml x).1 hx)⟩
theorem zpB {a:Ovi.Rows} (ha:Fit Rl (.list 3 a)) (fs xs:List Atom) (q:List Int) (hI:∀ x∈fs,∀ z∈x.2,inI z) (hal:a.length≤1048576) (hfs:zC fs+fs.length≤1048576) (hs:zC xs+xs.length≤1048576) (hq:q.length≤1048576) :
  ∃ ws R1 R2,Good3 ws∧resL 1 1 false 1 R1 0 0=some (LL ws)∧resF 27 1 1 1 false 1 R2 0 0=some (LL ws)∧∀ k,2000000≤k→C (k+20) 158 [.agg [.d (.list 3 a),.d (.list 2 (A1 fs))],.agg [.d (.list 1 (I1 q)),.d (.list 2 (A1 xs))]]=some R1∧C (k+20) 164 [.agg [.d (.list 3 a),.d (.list 2 (A1 fs))],.agg [.d (.list 1 (I1 q)),.d (.list 2 (A1 xs))]]=some R2:=by
 obtain ⟨valid,hval,hv⟩:=zfg ha xs (fun x hx=>by
  have:=zab hx
  have:(1048576:Nat)≤maxLen:=by decide
  omega)
 obtain ⟨ib,hib,hinst⟩:=zpF ha fs hI hfs hal
 have e89:∀ k,2000000≤k→C (k+19) 101 [.d (.list 3 a),.agg [.d (.list 1 (I1 q)),.d (.list 2 (A1 xs))]]=bo (qOk valid xs q):=fun k hk=>c101 (k:=k+9) (out:=q) hv (by omega) hal hs hq
 have e95:∀ k,2000000≤k→C (k+19) 109 [.d (.list 3 a),.agg [.d (.list 1 (I1 q)),.d (.list 2 (A1 xs))]]=bo (qOk valid xs q):=fun k hk=>c109 (k:=k+9) (out:=q) hv (by omega) hal hs hq
 cases hqo:qOk valid xs q with
 | false =>
  refine ⟨[],_,_,zkd,zlO,zlN,fun k hk=>⟨?_,?_⟩⟩
  ·rw [F158.run,e89 k hk,bB,hqo,ite'_nf]
  ·rw [F164.run,e95 k hk,bB,hqo,ite'_nf]
 | true =>
  obtain ⟨hQ,hq5,hq3⟩:=qok ha hval hv hib hinst hal hs hqo
  have hg:=zmU (ib:=ib) (xs:=xs) (fun _=>true) hQ.mok hI q hq3
  refine ⟨Lib.compact (zA (ans (fun _=>true) ib fs xs q)),[(false,[.d (.list 1 (LL (Lib.compact (zA (ans (fun _=>true) ib fs xs q)))))])],[(false,[.frow 27 1 1 (LL (Lib.compact (zA (ans (fun _=>true) ib fs xs q))))])],hg,zbB _ _,rfl,fun k hk=>⟨?_,?_⟩⟩
  ·obtain ⟨ws,g1,g2,g3,g4⟩:=l158' (k:=k+2) hQ q hq5 hq3 (by omega)
   have:ws=Lib.compact (zA (ans (fun _=>true) ib fs xs q)):=zie g4 hg.ss fun z=>by rw [g2,zbz,zbM]
   rw [F158.run,e89 k hk,bB,hqo,ite'_nt,← this]
   exact g1
  ·rw [F164.run,e95 k hk,bB,hqo,ite'_nt,c190 (k:=k+2) hQ q hq5 hq3 (by omega) 191 [] (fun _=>true) (fun x _ _=>by
    show C (k+18) 191 [.d (.list 1 (I1 x))]=_
    rw [F191.run];rfl)]
   rfl
end Go.Proofs.YtiacahdabflcdaaGreat.Q
namespace Go.Proofs.YtiacahdabflcdaaGreat.Q
open Go Ovi
variable {k:Nat}
def neg (t:Int):Int := -1 - t
def inst (x:Atom):Atom:=(x.1,x.2.map neg)
theorem znz {t:Int} (h : -10≤t∧t≤4):IntKind.i64.wrap (-1 - t)=neg t:=zae (by omega) (by omega)
theorem zhV {t:Int} (h : -10≤t∧t≤4):okV (neg t)=true:=by unfold okV neg;rw [decide_eq_true_eq];omega
theorem zo0 {t:Int} (h : -10≤t∧t≤4):inI (neg t):=by unfold inI neg;omega
def okI (r:Int) (vs:List Int):Option Res:=some [(true,[.d (.int .i64 r),.row 3 1 (I1 vs)]),(false,[.d (.bool true)])]
theorem znB {r:Int} {vs:List Int} {f:Int→Ovi.Rows→Bool→Option Res}:(za (okI r vs) fun r16=>zg (resI .i64 2 true 2 r16 0 0) fun n17=>zc (resO 3 1 2 true 2 r16 0 1) fun l53=>zj (resB 2 false 1 r16 1 0) fun b19=>f n17 l53 b19)=f r (I1 vs) true:=rfl
theorem c141 (x:Atom) (hz:x.2.length≤1048576):C (k+2) 141 [.agg [.d (.int .i64 x.1),.d (.list 1 (I1 x.2))]]=some [(true,[.d (.int .i64 x.1),.row 3 1 (I1 x.2)])]:=by
 have e:C (k+1) 87 [.d (.list 1 (I1 x.2))]=some [(false,[.row 3 1 (I1 x.2)])]:=by
  have:C (k+1) 87 [.d (.list 1 (I1 x.2))]=zbw 3 [.d (.list 1 (I1 x.2))]:=by kernel_rfl
  rw [this]
  simp only [zbw,za6]
  rw [show Nat.ble x.2.length 1099511627776=true from Nat.ble_eq_true_of_le (by omega)]
  rfl
 rw [F141.run,e]
 rfl
theorem zin (l:List Atom) (x:Atom):A1 l++[[D.int .i64 x.1,D.list 1 (I1 x.2)]]=A1 (l++[x]):=by simp [A1]
theorem znI (l:List Atom) (i:Nat):(A1 l).take i=A1 (l.take i):=by simp [A1]
theorem znH (l:List Atom) (i:Nat):(A1 l).drop i=A1 (l.drop i):=by simp [A1]
theorem c83 (xs:List Atom) (hx:∀ x∈xs,x.2.length≤1048576) (hl:xs.length≤1048576) (hk:2000000≤k):C (k+3) 83 [.d (.list 2 (A1 xs))]=some [(false,[.frow 114 2 1 (A1 xs)])]:=by
 have hmax:(1048576:Nat)≤maxLen:=by decide
 rw [F83.run,zo]
 have main:∀ (m i n:Nat),i+m=xs.length→m < n→F83.L3 (k+2) (C (k+2)) n (A1 xs) (xs.length:Int) (i:Int) (A1 (xs.take i))=some [(false,[.frow 114 2 1 (A1 xs)])]:=by
  intro m
  induction m with
  | zero =>
   intro i n hm hn
   obtain ⟨n,rfl⟩:∃ j,n=j+1:=⟨n - 1,by omega⟩
   obtain rfl:i=xs.length:=by omega
   rw [F83.L3.succ,ite'_f (lt_f (by omega)),List.take_length]
  | succ m ih =>
   intro i n hm hn
   obtain ⟨n,rfl⟩:∃ j,n=j+1:=⟨n - 1,by omega⟩
   have hi:i < xs.length:=by omega
   have hg:=List.getElem?_eq_getElem hi
   have:=ih (i+1) n (by omega) (by omega)
   rw [List.take_succ_eq_append_getElem hi] at this
   rw [F83.L3.succ,ite'_t (lt_t hi),zo,ite'_t (zn hi),zaS hg,zd,zaT hg,zf,c141 (k:=k) xs[i] (hx _ (List.getElem_mem hi))]
   show ite' (fits ((A1 (xs.take i)).length+[[D.int IntKind.i64 (xs[i]).1,D.list 1 (I1 (xs[i]).2)]].length)) (F83.L3 (k+2) (C (k+2)) n (A1 xs) (xs.length:Int) (IntKind.i64.wrap ((i:Int)+1)) (A1 (xs.take i)++[[D.int IntKind.i64 (xs[i]).1,D.list 1 (I1 (xs[i]).2)]])) none=_
   rw [ite'_t (zQ (by rw [zo,List.length_take];simp only [List.length_cons,List.length_nil];omega)),zz hi (m:=xs.length) (by omega),zin]
   exact this
 exact main xs.length 0 (k+2) (by omega) (by omega)
def can (xs:List Atom):List Atom:=Lib.compact (z7 xs)
theorem zkX (xs:List Atom):(can xs).length≤xs.length:=by
 have:=zdr (z7 xs)
 rw [zca] at this
 exact this
theorem zbQ (xs:List Atom) (z:Atom):z∈can xs↔z∈xs:=by unfold can;rw [zkm,zfl]
theorem zgF {l:List Atom} (hl:l.length≤1048576) (hx:∀ x∈l,x.2.length≤1048576):(Nat.ble l.length 1099511627776&&l.all fun z=>Nat.ble z.2.length 1099511627776)=true:=by
 rw [Bool.and_eq_true,List.all_eq_true]
 exact ⟨Nat.ble_eq_true_of_le (by omega),fun z hz=>Nat.ble_eq_true_of_le (by have:=hx z hz;omega)⟩
theorem zl7 (xs:List Atom):(can xs).Nodup:=(zd6 xs).imp fun {a b} h e=>by
 subst e
 rw [swoA.irrefl] at h
 cases h
theorem c92 (xs:List Atom) (hx:∀ x∈xs,x.2.length≤1048576) (hl:xs.length≤1048576) (hk:2000000≤k):C (k+4) 92 [.d (.list 2 (A1 xs))]=some [(false,[.frow 114 2 1 (A1 (can xs))])]:=by
 have e1:C (k+3) 150 [.var 0 0,.d (.int .i64 114),.d (.list 2 (A1 xs)),.d (.fn 77 [])]=some [(false,[.frow 114 2 1 (A1 (z7 xs))])]:=by
  have:C (k+3) 150 [.var 0 0,.d (.int .i64 114),.d (.list 2 (A1 xs)),.d (.fn 77 [])]=zdj 77 [.var 0 0,.d (.int .i64 114),.d (.list 2 (A1 xs)),.d (.fn 77 [])]:=by kernel_rfl
  rw [this]
  unfold zdj zbP
  simp only [zhu,Option.bind_some]
  rw [zgF hl hx]
  rfl
 have e2:C (k+3) 151 [.var 0 0,.d (.int .i64 114),.d (.list 2 (A1 (z7 xs))),.d (.fn 152 [])]=some [(false,[.frow 114 2 1 (A1 (can xs))]),(true,[])]:=by
  have:C (k+3) 151 [.var 0 0,.d (.int .i64 114),.d (.list 2 (A1 (z7 xs))),.d (.fn 152 [])]=zde 152 [.var 0 0,.d (.int .i64 114),.d (.list 2 (A1 (z7 xs))),.d (.fn 152 [])]:=by kernel_rfl
  rw [this]
  unfold zde zbP
  simp only [zhu,Option.bind_some]
  rw [zgF (by rw [zca];exact hl) (fun x h=>hx x ((zfl _ _).1 h))]
  have hnd:=zl7 xs
  unfold can at hnd ⊢
  simp only [show Nat.beq 152 152=true from rfl,cond_true,Option.bind_some,decide_eq_true hnd]
  rfl
 have r0:∀ l,resF 114 2 0 1 false 1 [(false,[.frow 114 2 1 l])] 0 0=some l:=fun _=>rfl
 rw [F92.run,c83 xs hx hl hk]
 simp only [zi,zI,zf]
 rw [e1]
 simp only [zi,r0,zf]
 rw [e2]
 rfl
theorem c42 {a:Ovi.Rows} (ha2:a.length≤1048576) (xs:List Atom) (hx:∀ x∈xs,x.2.length≤1048576) (hl:xs.length≤1048576) (hk:2000000≤k):C (k+4) 42 [.agg [.d (.list 3 a),.d (.list 2 (A1 xs))]]=some [(true,[.row 112 3 a,.frow 114 2 1 (A1 xs)])]:=by
 have e:C (k+3) 82 [.d (.list 3 a)]=some [(false,[.row 112 3 a])]:=by
  rw [zcQ (p:=zcC 112 3) rfl]
  unfold zcC
  simp only []
  rw [show Nat.ble (List.length a) 1099511627776=true from Nat.ble_eq_true_of_le (by omega)]
  rfl
 rw [F42.run,e]
 simp only [zi,zu,zf]
 rw [c83 xs hx hl hk]
 rfl
theorem c116 (x:Atom) (hz:x.2.length≤1048576):C (k+1) 116 [.agg [.d (.int .i64 x.1),.d (.list 1 (I1 x.2))]]=some [(true,[.d (.int .i64 x.1),.row 3 1 (I1 x.2)])]:=by
 have hmax:(1048576:Nat)≤maxLen:=by decide
 rw [F116.run,zl,ite'_t (zQ (by omega))]
theorem c68 {a:Ovi.Rows} (ha2:a.length≤1048576) (xs:List Atom) (hx:∀ x∈xs,x.2.length≤1048576) (hl:xs.length≤1048576) (hk:2000000≤k):C (k+3) 68 [.agg [.d (.list 3 a),.d (.list 2 (A1 xs))]]=some [(true,[.row 112 3 a,.frow 114 2 1 (A1 xs)])]:=by
 have hmax:(1048576:Nat)≤maxLen:=by decide
 rw [F68.run,ite'_t (zQ (by omega))]
 have main:∀ (m i n:Nat),i+m=xs.length→m < n→F68.L3 (k+2) (C (k+2)) n (i:Int) a (A1 xs) [] [] a (A1 (xs.take i))=some [(true,[.row 112 3 a,.frow 114 2 1 (A1 xs)])]:=by
  intro m
  induction m with
  | zero =>
   intro i n hm hn
   obtain ⟨n,rfl⟩:∃ j,n=j+1:=⟨n - 1,by omega⟩
   obtain rfl:i=xs.length:=by omega
   rw [F68.L3.succ,zo,ite'_f (lt_f (by omega)),List.take_length]
  | succ m ih =>
   intro i n hm hn
   obtain ⟨n,rfl⟩:∃ j,n=j+1:=⟨n - 1,by omega⟩
   have hi:i < xs.length:=by omega
   have hg:=List.getElem?_eq_getElem hi
   have:=ih (i+1) n (by omega) (by omega)
   rw [List.take_succ_eq_append_getElem hi] at this
   rw [F68.L3.succ,zo,ite'_t (lt_t hi),ite'_t (zn hi),zaS hg,zd,zaT hg,zf,c116 (k:=k+1) xs[i] (hx _ (List.getElem_mem hi))]
   show ite' (fits ((A1 (xs.take i)).length+[[D.int IntKind.i64 (xs[i]).1,D.list 1 (I1 (xs[i]).2)]].length)) (F68.L3 (k+2) (C (k+2)) n (IntKind.i64.wrap ((i:Int)+1)) a (A1 xs) [] [] a (A1 (xs.take i)++[[D.int IntKind.i64 (xs[i]).1,D.list 1 (I1 (xs[i]).2)]])) none=_
   rw [ite'_t (zQ (by rw [zo,List.length_take];simp only [List.length_cons,List.length_nil];omega)),zz hi (m:=xs.length) (by omega),zin]
   exact this
 exact main xs.length 0 (k+2) (by omega) (by omega)
theorem zj1 (x y:Atom):cmpF x y=cmpA x y:=by unfold cmpF cmpA;rw [zec]
theorem ziQ (x y:Atom):cmpF x y=0↔x=y:=by
 unfold cmpF
 constructor
 ·intro h
  by_cases h1:x.1 < y.1
  ·rw [if_pos h1] at h;omega
  ·rw [if_neg h1] at h
   by_cases h2:x.1 > y.1
   ·rw [if_pos h2] at h;omega
   ·rw [if_neg h2] at h
    exact Prod.ext (by omega) ((zbh _ _).1 h)
 ·rintro rfl
  rw [if_neg (by omega),if_neg (by omega)]
  exact (zbh _ _).2 rfl
theorem c173 {a:Ovi.Rows} (xs:List Atom) (f:Atom) (hx:∀ x∈xs,x.2.length≤1048576) (hl:xs.length≤1048576) (hk:2000000≤k):∃ n,C (k+4) 173 [.agg [.d (.list 3 a),.d (.list 2 (A1 xs))],.agg [.d (.int .i64 f.1),.d (.list 1 (I1 f.2))]]=io n∧(n ≥ 0↔f∈xs):=by
 have hmax:(1048576:Nat)≤maxLen:=by decide
 rw [F173.run]
 have:=zal (xs:=xs) (L:=fun n i=>F173.L2 (k+3) (C (k+3)) n i a (A1 xs) f.1 (I1 f.2)) (stop:=fun _ x=>decide (x=f)) (hit:=fun i=>io (i:Int)) (fin:=io (-1))
  (fun n i x hxi=>by
   have hi:=(List.getElem?_eq_some_iff.1 hxi).1
   have hxl:=hx x (List.mem_of_getElem? hxi)
   rw [F173.L2.succ,zo,ite'_t (lt_t hi),ite'_t (zn hi),zaS hxi,zd,zaT hxi,zf,c105 (k:=k+1) x f (by omega) (by omega),iB',zz hi (m:=xs.length) (by omega)]
   have:(cmpF x f==0)=decide (x=f):=by
    rw [Bool.eq_iff_iff,beq_iff_eq,decide_eq_true_eq]
    exact ziQ x f
   rw [this];rfl)
  (fun n=>by rw [F173.L2.succ,zo,ite'_f (lt_f (by omega))];rfl) (k+3) (by omega)
 rcases this with ⟨i,x,hxi,hst,e⟩ | ⟨hst,e⟩
 ·refine ⟨(i:Int),e,?_⟩
  simp only [decide_eq_true_eq] at hst
  subst hst
  exact ⟨fun _=>List.mem_of_getElem? hxi,fun _=>by omega⟩
 ·refine ⟨-1,e,?_⟩
  constructor
  ·intro h;omega
  ·intro h
   obtain ⟨i,hi⟩:=List.mem_iff_getElem?.1 h
   have:=hst i f hi
   simp at this
theorem c125 {a:Ovi.Rows} (xs:List Atom) (f:Atom) (hS:SSA xs) (hx:∀ x∈xs,x.2.length≤1048576) (hf:f.2.length≤1048576) (hl:xs.length≤1000000) (hk:2000000≤k) :
  ∃ r ws,C (k+5) 125 [.agg [.d (.list 3 a),.d (.list 2 (A1 xs))],.agg [.d (.int .i64 f.1),.d (.list 1 (I1 f.2))]]=some r∧resL 3 1 true 2 r 0 0=some a∧resL 2 1 true 2 r 0 1=some (A1 ws)∧SSA ws∧(∀ z,z∈ws↔z∈xs∨z=f)∧ws.length≤xs.length+1:=by
 have hmax:(1048576:Nat)≤maxLen:=by decide
 obtain ⟨n,e77,hn⟩:=c173 (k:=k) (a:=a) xs f hx (by omega) hk
 rw [F125.run,e77,iB']
 by_cases h0:n ≥ 0
 ·rw [ite'_t (by simpa using h0)]
  have hm:=hn.1 h0
  refine ⟨_,xs,rfl,rfl,rfl,hS,fun z=>?_,by omega⟩
  constructor
  ·exact fun h=>.inl h
  ·rintro (h | rfl)
   ·exact h
   ·exact hm
 ·rw [ite'_f (by simpa using h0)]
  have hm:f ∉ xs:=fun h=>h0 (hn.2 h)
  have ins:∀ i:Nat,i≤xs.length→(∀ j y,j < i→xs[j]? = some y→ltA y f=true)→(∀ y,xs[i]? = some y→ltA y f=false) →
    ∃ r ws,(ite' (inS (i:Int) ((A1 xs).length:Int) (A1 xs).length) (ite' (fits ([[D.int IntKind.i64 f.1,D.list 1 (I1 f.2)]].length+(List.drop (i:Int).toNat (A1 xs)).length)) (ite' (inS (0:Int) (i:Int) (A1 xs).length) (ite' (fits (List.take (i:Int).toNat (A1 xs)).length) (ite' (fits ((List.take (i:Int).toNat (A1 xs)).length+List.length ([[D.int IntKind.i64 f.1,D.list 1 (I1 f.2)]]++List.drop (i:Int).toNat (A1 xs)))) (some ([(true,[RL.d (D.list 3 a),RL.row 114 2 (List.take (i:Int).toNat (A1 xs)++([[D.int IntKind.i64 f.1,D.list 1 (I1 f.2)]]++List.drop (i:Int).toNat (A1 xs)))])])) (none)) (none)) (none)) (none)) (none))=some r∧resL 3 1 true 2 r 0 0=some a∧resL 2 1 true 2 r 0 1=some (A1 ws)∧SSA ws∧(∀ z,z∈ws↔z∈xs∨z=f)∧ws.length≤xs.length+1:=by
   intro i hi hlt hge
   rw [Int.toNat_natCast,zo,znI,znH,ite'_t (by simp only [inS,decide_eq_true_eq];omega),ite'_t (zQ (by rw [zo,List.length_drop];simp;omega)),ite'_t (by simp only [inS,decide_eq_true_eq];omega),ite'_t (zQ (by rw [zo,List.length_take];omega)),ite'_t (zQ (by rw [zo,List.length_take,List.length_append,zo,List.length_drop];simp;omega))]
   have e:A1 (xs.take i)++([[D.int IntKind.i64 f.1,D.list 1 (I1 f.2)]]++A1 (xs.drop i))=A1 (xs.take i++f::xs.drop i):=by simp [A1]
   rw [e]
   refine ⟨_,xs.take i++f::xs.drop i,rfl,rfl,rfl,zoc hS hm hlt hge,fun z=>zn3 i,?_⟩
   simp only [List.length_append,List.length_cons,List.length_take,List.length_drop];omega
  have main:∀ (m i n:Nat),i+m=xs.length→m < n→(∀ j y,j < i→xs[j]? = some y→ltA y f=true)→∃ r ws,F125.L4 (k+4) (C (k+4)) n (i:Int) a (A1 xs) f.1 (I1 f.2) [] []=some r∧resL 3 1 true 2 r 0 0=some a∧resL 2 1 true 2 r 0 1=some (A1 ws)∧SSA ws∧(∀ z,z∈ws↔z∈xs∨z=f)∧ws.length≤xs.length+1:=by
   intro m
   induction m with
   | zero =>
    intro i n hm' hn' hlt
    obtain ⟨n,rfl⟩:∃ j,n=j+1:=⟨n - 1,by omega⟩
    obtain rfl:i=xs.length:=by omega
    have h0:decide (((xs.length:Nat):Int) < ((A1 xs).length:Int))=false:=by rw [zo];exact lt_f (by omega)
    rw [F125.L4.succ,h0,ite'_f rfl,c116 (k:=k+3) f hf]
    exact ins xs.length (Nat.le_refl _) hlt (fun y hy=>by rw [List.getElem?_eq_none (Nat.le_refl _)] at hy;cases hy)
   | succ m ih =>
    intro i n hm' hn' hlt
    obtain ⟨n,rfl⟩:∃ j,n=j+1:=⟨n - 1,by omega⟩
    have hi:i < xs.length:=by omega
    have hg:=List.getElem?_eq_getElem hi
    have hxl:=hx _ (List.getElem_mem hi)
    have h0:decide ((i:Int) < ((A1 xs).length:Int))=true:=by rw [zo];exact lt_t hi
    have h1:inR (i:Int) (A1 xs).length=true:=by rw [zo];exact zn hi
    rw [F125.L4.succ,h0,ite'_t rfl,h1,ite'_t rfl,zaS hg,zd,zaT hg,zf,c105 (k:=k+2) xs[i] f (by omega) (by omega),iB']
    by_cases hc:cmpF xs[i] f < 0
    ·rw [ite'_t (by simpa using hc),zz hi (m:=xs.length) (by omega)]
     refine ih (i+1) n (by omega) (by omega) fun j y hj hy=>?_
     by_cases hji:j=i
     ·subst hji
      rw [hg] at hy;cases hy
      unfold ltA
      rw [← zj1,decide_eq_true_eq];exact hc
     ·exact hlt j y (by omega) hy
    ·rw [ite'_f (by simpa using hc),c116 (k:=k+3) f hf]
     refine ins i (by omega) hlt fun y hy=>?_
     rw [hg] at hy;cases hy
     unfold ltA
     rw [← zj1,decide_eq_false_iff_not];exact hc
  exact main xs.length 0 (k+4) (by omega) (by omega) (fun j y hj=>by omega)
end Go.Proofs.YtiacahdabflcdaaGreat.Q
namespace Go.Proofs.YtiacahdabflcdaaGreat.Q
open Go Ovi
variable {k:Nat}
variable {a:Ovi.Rows} {xs:List Atom} {ib:Bool}
end Go.Proofs.YtiacahdabflcdaaGreat.Q
namespace Go.Proofs.YtiacahdabflcdaaGreat.Q
open Go Ovi
variable {k:Nat}
theorem znq {a:Ovi.Rows} {xs:List Atom} {valid:Atom→Bool} (n:Int) (hv:zco a xs valid) (hk:2000000≤k) (ha:a.length≤1048576) (hs:zC xs+xs.length≤1048576) :
  C (k+9) 136 [.d (.list 3 a),.d (.list 2 (A1 xs)),.d (.int .i64 n)]=bo (decide ((1:Int)≤(xs.length:Int)∧(xs.length:Int)≤n)&&xs.all valid):=by
 have hmax:(1048576:Nat)≤maxLen:=by decide
 rw [F136.run,c128,bB,zo]
 cases decide ((1:Int)≤(xs.length:Int)∧(xs.length:Int)≤n) with
 | false=>rfl
 | true =>
  rw [ite'_t rfl,c139 (k:=k+6) xs 178 [[.list 3 a]] (fun x=>!valid x) (by omega) (by omega) (fun x hx=>by
   have:=zab hx
   rw [List.map_cons,List.map_nil,F178.run,(hv x hx k (by omega) (by omega)).1,bB];rfl),bB]
  exact zas (zbv xs valid)
structure DepOk (a:Ovi.Rows) (body head:List Atom) (egd:Bool) (l r:Int):Prop where
 b1:1≤body.length
 b2:body.length≤2
 bv:∀ x∈body,(0≤x.1∧x.1 < (a.length:Int))∧(x.2.length:Int)=ar a x.1∧okT x.2
 e:egd=true→head=[]∧zZ body l∧zZ body r
 bV:zco a body (fun _=>true)
 tV:egd=false→1≤head.length∧zco a head (fun _=>true)
 t:egd=false→head.length≤2∧∀ x∈head,(0≤x.1∧x.1 < (a.length:Int))∧(x.2.length:Int)=ar a x.1∧okT x.2
theorem ziA {a:Ovi.Rows} {body:List Atom} {z:Int} (hb:∀ x∈body,(0≤x.1∧x.1 < (a.length:Int))∧(x.2.length:Int)=ar a x.1∧okT x.2) (h:zZ body z):0≤z∧z≤4:=by
 obtain ⟨h0,x,hx,hz⟩:=h
 exact ⟨h0,((hb x hx).2.2 z hz).2⟩
theorem dep {a:Ovi.Rows} (ha:Fit Rl (.list 3 a)) (hal:a.length≤1048576) (body head:List Atom) (egd:Bool) (l r:Int) (hsb:zC body+body.length≤1048576) (hsh:zC head+head.length≤1048576) :
  ∃ b,(b=true→DepOk a body head egd l r)∧∀ k,2000000≤k→C (k+12) 81 [.d (.list 3 a),.agg [.d (.list 2 (A1 body)),.d (.list 2 (A1 head)),.d (.bool egd),.d (.int .i64 l),.d (.int .i64 r)]]=bo b∧C (k+12) 108 [.d (.list 3 a),.agg [.d (.list 2 (A1 body)),.d (.list 2 (A1 head)),.d (.bool egd),.d (.int .i64 l),.d (.int .i64 r)]]=bo b:=by
 have hmax:(1048576:Nat)≤maxLen:=by decide
 obtain ⟨vb,hvb,hVb⟩:=zfg ha body (fun x hx=>by have:=zab hx;omega)
 obtain ⟨vh,hvh,hVh⟩:=zfg ha head (fun x hx=>by have:=zab hx;omega)
 have e89:∀ k,2000000≤k→C (k+11) 136 [.d (.list 3 a),.d (.list 2 (A1 body)),.d (.int .i64 2)]=bo (decide ((1:Int)≤(body.length:Int)∧(body.length:Int)≤2)&&body.all vb):=fun k hk=>znq (k:=k+2) 2 hVb (by omega) hal hsb
 have e89h:∀ k,2000000≤k→C (k+11) 136 [.d (.list 3 a),.d (.list 2 (A1 head)),.d (.int .i64 2)]=bo (decide ((1:Int)≤(head.length:Int)∧(head.length:Int)≤2)&&head.all vh):=fun k hk=>znq (k:=k+2) 2 hVh (by omega) hal hsh
 have L4:∀ k,2000000≤k→∀ fin,(∀ n,F108.L4 (k+11) (C (k+11)) (n+1) a (body.length:Int) (A1 body) (A1 head) egd l r=fin)→F108.L4 (k+11) (C (k+11)) (k+11) a 0 (A1 body) (A1 head) egd l r=cond (body.any fun x=>!vb x) (bo false) fin:=fun k hk fin hfin =>
  zbd (xs:=body) (L:=fun n i=>F108.L4 (k+11) (C (k+11)) n a i (A1 body) (A1 head) egd l r) (stop:=fun x=>!vb x) (hit:=bo false) (fin:=fin)
   (fun n i x hx=>by
    have hi:=(List.getElem?_eq_some_iff.1 hx).1
    have:=zab (List.mem_of_getElem? hx)
    rw [F108.L4.succ,zo,ite'_t (lt_t hi),ite'_t (zn hi),zaS hx,zd,zaT hx,zf,(hVb x (List.mem_of_getElem? hx) (k+6) (by omega) (by omega)).2,bB,zz hi (m:=body.length) (by omega)];rfl)
   hfin (k+11) (by omega)
 have hbv:body.all vb=true→∀ x∈body,(0≤x.1∧x.1 < (a.length:Int))∧(x.2.length:Int)=ar a x.1∧okT x.2:=fun h x hx=>hvb x hx (List.all_eq_true.1 h x hx)
 have hhv:head.all vh=true→∀ x∈head,(0≤x.1∧x.1 < (a.length:Int))∧(x.2.length:Int)=ar a x.1∧okT x.2:=fun h x hx=>hvh x hx (List.all_eq_true.1 h x hx)
 cases hb12:decide ((1:Int)≤(body.length:Int)∧(body.length:Int)≤2) with
 | false =>
  refine ⟨false,fun h=>(by cases h),fun k hk=>?_⟩
  rw [F81.run,F108.run,e89 k hk,bB,c157,bB]
  simp only [zo,hb12,Bool.false_and,Bool.not_false]
  exact ⟨rfl,rfl⟩
 | true =>
  have h12:=of_decide_eq_true hb12
  cases hall:body.all vb with
  | false =>
   refine ⟨false,fun h=>(by cases h),fun k hk=>?_⟩
   have hany:(body.any fun x=>!vb x)=true:=by rw [← zbv] at hall;simpa using hall
   rw [F81.run,F108.run,e89 k hk,bB,c157,bB]
   simp only [zo,hb12,hall,Bool.and_true,Bool.and_false,Bool.true_and,Bool.false_and,Bool.not_true,Bool.not_false]
   refine ⟨rfl,?_⟩
   rw [ite'_f rfl]
   rw [L4 k hk _ (fun n=>by rw [F108.L4.succ,zo,ite'_f (lt_f (by omega))]),hany];rfl
  | true =>
   have hany:(body.any fun x=>!vb x)=false:=by rw [← zbv] at hall;simpa using hall
   have hB:=hbv hall
   have hBV:zco a body (fun _=>true):=fun x hx k h1 h2=>by have:=hVb x hx k h1 h2;rw [List.all_eq_true.1 hall x hx] at this;exact this
   cases egd with
   | true =>
    refine ⟨decide (head=[])&&(decide (l < r)&&(@decide (zZ body l) (Classical.propDecidable _)&&@decide (zZ body r) (Classical.propDecidable _))),fun h=>?_,fun k hk=>?_⟩
    ·simp only [Bool.and_eq_true] at h
     obtain ⟨h1,h2,h3,h4⟩:=h
     have h3:=@of_decide_eq_true _ (Classical.propDecidable _) h3
     have h4:=@of_decide_eq_true _ (Classical.propDecidable _) h4
     exact ⟨by omega,by omega,hB,fun _=>⟨of_decide_eq_true h1,h3,h4⟩,hBV,(fun h=>by cases h),fun h=>by cases h⟩
    ·obtain ⟨v1,w1,w2,w3⟩:=c137 (k:=k+10) body (by omega) hsb
     obtain ⟨v2,u1,u2,u3⟩:=c154 (k:=k+9) body (by omega) hsb
     have d1:∀ z,decide (z∈v1)=@decide (zZ body z) (Classical.propDecidable _):=fun z=>zcB w2 z
     have d2:∀ z,decide (z∈v2)=@decide (zZ body z) (Classical.propDecidable _):=fun z=>zcB u2 z
     have hh:decide ((head.length:Int)=0)=decide (head=[]):=by
      rw [Bool.eq_iff_iff,decide_eq_true_eq,decide_eq_true_eq]
      constructor
      ·intro h;exact List.eq_nil_of_length_eq_zero (by omega)
      ·rintro rfl;rfl
     rw [F81.run,F108.run,e89 k hk,bB,c157,bB]
     simp only [zo,hb12,hall,Bool.and_true,Bool.and_false,Bool.true_and,Bool.false_and,Bool.not_true,Bool.not_false]
     constructor
     ·rw [ite'_f rfl,ite'_t rfl,w1]
      simp only [zi,zu,zf]
      rw [show ((head.length:Int)==0)=decide (head=[]) from hh,c138 (k:=k+9) v1 l (by omega) (by omega),c138 (k:=k+9) v1 r (by omega) (by omega),bB,bB,d1,d1]
      cases decide (head=[])<;>cases decide (l < r)<;>cases @decide (zZ body l) (Classical.propDecidable _)<;>cases @decide (zZ body r) (Classical.propDecidable _)<;>rfl
     ·rw [ite'_f rfl,L4 k hk _ (fun n=>by rw [F108.L4.succ,zo,ite'_f (lt_f (by omega)),ite'_t rfl,u1,zo]),hany]
      simp only [zi,zbB,zf,cond_false]
      rw [show ((head.length:Int)==0)=decide (head=[]) from hh,c156 (k:=k+10) v2 l (by omega) (by omega),c156 (k:=k+10) v2 r (by omega) (by omega),bB,bB,d2,d2]
      cases decide (head=[])<;>cases decide (l < r)<;>cases @decide (zZ body l) (Classical.propDecidable _)<;>cases @decide (zZ body r) (Classical.propDecidable _)<;>rfl
   | false =>
    have L12:∀ k,2000000≤k→F108.L12 (k+11) (C (k+11)) (k+11) a 0 (A1 body) (A1 head) false l r=cond (head.any fun x=>!vh x||src a x) (bo false) (bo (decide ((1:Int)≤(head.length:Int)∧(head.length:Int)≤2)&&(decide (l=0)&&decide (r=0)))):=fun k hk =>
     zbd (xs:=head) (L:=fun n i=>F108.L12 (k+11) (C (k+11)) n a i (A1 body) (A1 head) false l r) (stop:=fun x=>!vh x||src a x) (hit:=bo false)
      (fun n i x hx=>by
       have hi:=(List.getElem?_eq_some_iff.1 hx).1
       have hm:=List.mem_of_getElem? hx
       have:=zab hm
       rw [F108.L12.succ,zo,ite'_t (lt_t hi),ite'_t (zn hi),zaS hx,zd,zaT hx,zf,(hVh x hm (k+6) (by omega) (by omega)).2,bB,zz hi (m:=head.length) (by omega)]
       cases hvx:vh x with
       | false=>rfl
       | true =>
        obtain ⟨g1,g2⟩:=zhl ha (hvh x hm hvx).1
        rw [ite'_nt,ite'_t (zn hi),zd,g1,ite'_t rfl,g2,zt]
        cases src a x<;>rfl)
      (fun n=>by
       rw [F108.L12.succ,zo,ite'_f (lt_f (by omega)),c157,bB]
       have e1:(l==0)=decide (l=0):=rfl
       have e2:(r==0)=decide (r=0):=rfl
       rw [e1,e2]
       cases decide ((1:Int)≤(head.length:Int)∧(head.length:Int)≤2)<;>cases decide (l=0)<;>rfl) (k+11) (by omega)
    refine ⟨cond (head.any fun x=>!vh x||src a x) false (decide ((1:Int)≤(head.length:Int)∧(head.length:Int)≤2)&&(decide (l=0)&&decide (r=0))),fun h=>?_,fun k hk=>?_⟩
    ·cases hh:(head.any fun x=>!vh x||src a x) with
     | true=>rw [hh] at h;cases h
     | false =>
      rw [hh,cond_false] at h
      simp only [Bool.and_eq_true,decide_eq_true_eq] at h
      rw [List.any_eq_false] at hh
      have hvt:∀ x∈head,vh x=true:=fun x hx=>by
       have:=hh x hx
       cases hv:vh x with
       | true=>rfl
       | false=>rw [hv] at this;simp at this
      exact ⟨by omega,by omega,hB,(fun h=>by cases h),hBV,fun _=>⟨by omega,fun x hx k h1 h2=>by have:=hVh x hx k h1 h2;rw [hvt x hx] at this;exact this⟩,fun _=>⟨by omega,fun x hx=>hvh x hx (hvt x hx)⟩⟩
    ·rw [F81.run,F108.run,e89 k hk,bB,c157,bB]
     simp only [zo,hb12,hall,Bool.and_true,Bool.and_false,Bool.true_and,Bool.false_and,Bool.not_true,Bool.not_false]
     constructor
     ·rw [ite'_f rfl,ite'_f rfl,e89h k hk,bB]
      cases hha:head.all vh with
      | false =>
       have hany2:(head.any fun x=>!vh x||src a x)=true:=by
        rw [← zbv] at hha
        have h1:(head.any fun x=>!vh x)=true:=by simpa using hha
        obtain ⟨x,hx,hx2⟩:=List.any_eq_true.1 h1
        exact List.any_eq_true.2 ⟨x,hx,by rw [hx2];rfl⟩
       rw [hany2,Bool.and_false];rfl
      | true =>
       have hh2:=List.all_eq_true.1 hha
       have hany2:(head.any fun x=>!vh x||src a x)=head.any (src a):=by
        rw [Bool.eq_iff_iff,List.any_eq_true,List.any_eq_true]
        constructor
        ·rintro ⟨x,hx,h⟩
         rw [hh2 x hx] at h
         exact ⟨x,hx,by simpa using h⟩
        ·rintro ⟨x,hx,h⟩
         exact ⟨x,hx,by rw [h];simp⟩
       have e129:C (k+11) 139 [.d (.list 2 (A1 head)),.d (.fn 140 [[.list 3 a]])]=bo (head.any (src a)):=c139 (k:=k+9) head 140 [[.list 3 a]] (src a) (by omega) (by omega) (fun x hx=>by
        obtain ⟨g1,g2⟩:=zhl ha (hvh x hx (hh2 x hx)).1
        rw [List.map_cons,List.map_nil,F140.run,g1,ite'_t rfl,g2,zt];rfl)
       rw [hany2,Bool.and_true,e129,bB]
       have e1:(l==0)=decide (l=0):=rfl
       have e2:(r==0)=decide (r=0):=rfl
       rw [e1,e2]
       cases decide ((1:Int)≤(head.length:Int)∧(head.length:Int)≤2)<;>cases decide (l=0)<;>cases decide (r=0)<;>cases head.any (src a)<;>rfl
     ·rw [ite'_f rfl,L4 k hk _ (fun n=>by rw [F108.L4.succ,zo,ite'_f (lt_f (by omega)),ite'_f rfl,L12 k hk]),hany,cond_false]
      cases (head.any fun x=>!vh x||src a x)<;>rfl
end Go.Proofs.YtiacahdabflcdaaGreat.Q
namespace Go.Proofs.YtiacahdabflcdaaGreat.Q
open Go Ovi
variable {k:Nat}
structure Dep where
 body:List Atom
 head:List Atom
 egd:Bool
 l:Int
 r:Int
def DD (ds:List Dep):Ovi.Rows:=ds.map fun d=>[.list 2 (A1 d.body),.list 2 (A1 d.head),.bool d.egd,.int .i64 d.l,.int .i64 d.r]
theorem zbt (ds:List Dep):(DD ds).length=ds.length:=by simp [DD]
theorem zd8 {ds:List Dep} {i:Nat} {d:Dep} (h:ds[i]? = some d):(DD ds)[i]? = some [.list 2 (A1 d.body),.list 2 (A1 d.head),.bool d.egd,.int .i64 d.l,.int .i64 d.r]:=by simp [DD,h]
section
variable {ds:List Dep} {i:Nat} {d:Dep}
theorem DD_0 (h:ds[i]? = some d):zq 2 (DD ds) (i:Int).toNat 0=some (A1 d.body):=by rw [Int.toNat_natCast,zV (zd8 h)];simp [zJ]
theorem DD_1 (h:ds[i]? = some d):zq 2 (DD ds) (i:Int).toNat 1=some (A1 d.head):=by rw [Int.toNat_natCast,zV (zd8 h)];simp [zJ]
theorem DD_2 (h:ds[i]? = some d):zan (DD ds) (i:Int).toNat 2=some d.egd:=by rw [Int.toNat_natCast,zai (zd8 h)];simp [zO]
theorem DD_3 (h:ds[i]? = some d):zm .i64 (DD ds) (i:Int).toNat 3=some d.l:=by rw [Int.toNat_natCast,zG (zd8 h)];simp [zy]
theorem DD_4 (h:ds[i]? = some d):zm .i64 (DD ds) (i:Int).toNat 4=some d.r:=by rw [Int.toNat_natCast,zG (zd8 h)];simp [zy]
end
def da (d:Dep):AV:=.agg [.d (.list 2 (A1 d.body)),.d (.list 2 (A1 d.head)),.d (.bool d.egd),.d (.int .i64 d.l),.d (.int .i64 d.r)]
def Dsz (d:Dep):Prop:=zC d.body+d.body.length≤1048576∧zC d.head+d.head.length≤1048576
theorem deps {a:Ovi.Rows} (ha:Fit Rl (.list 3 a)) (hal:a.length≤1048576) (ds:List Dep) (hz:∀ d∈ds,Dsz d) (hl:ds.length≤1048576) :
  ∃ b,(b=true→ds.length≤5∧∀ d∈ds,DepOk a d.body d.head d.egd d.l d.r∧∀ k,2000000≤k→C (k+12) 81 [.d (.list 3 a),da d]=bo true∧C (k+12) 108 [.d (.list 3 a),da d]=bo true) ∧
   ∀ k,2000000≤k→C (k+16) 41 [.d (.list 3 a),.d (.list 5 (DD ds))]=bo b∧C (k+16) 59 [.d (.list 3 a),.d (.list 5 (DD ds))]=bo b:=by
 have hmax:(1048576:Nat)≤maxLen:=by decide
 obtain ⟨rb,hrb⟩:=rels ha
 have:∀ d:Dep,∃ b,d∈ds→(b=true→DepOk a d.body d.head d.egd d.l d.r)∧∀ k,2000000≤k→C (k+12) 81 [.d (.list 3 a),da d]=bo b∧C (k+12) 108 [.d (.list 3 a),da d]=bo b:=by
  intro d
  by_cases h:d∈ds
  ·obtain ⟨b,hb⟩:=dep ha hal d.body d.head d.egd d.l d.r (hz d h).1 (hz d h).2
   exact ⟨b,fun _=>hb⟩
  ·exact ⟨false,fun h'=>absurd h' h⟩
 obtain ⟨vd,hvd⟩:=Classical.axiomOfChoice this
 refine ⟨rb&&(decide ((ds.length:Int)≤5)&&ds.all vd),fun h=>?_,fun k hk=>?_⟩
 ·simp only [Bool.and_eq_true,decide_eq_true_eq,List.all_eq_true] at h
  refine ⟨by omega,fun d hd=>?_⟩
  obtain ⟨h1,h2⟩:=hvd d hd
  have e:=h.2.2 d hd
  refine ⟨h1 e,fun k hk=>?_⟩
  have:=h2 k hk
  rw [e] at this
  exact this
 ·have e87:C (k+15) 79 [.d (.list 5 (DD ds)),.d (.fn 80 [[.list 3 a]])]=bo (ds.any fun d=>!vd d):=by
   rw [F79.run,F135.run,zbt]
   have:=zal (xs:=ds) (L:=fun n i=>F135.L2 (k+13) (C (k+13)) n (DD ds) 80 [[.list 3 a]] (ds.length:Int) i) (stop:=fun _ d=>!vd d) (hit:=fun i=>some [(false,[.d (.int .i64 (i:Int))])]) (fin:=some [(false,[.d (.int .i64 (-1))])])
    (fun n i d hx=>by
     have hi:=(List.getElem?_eq_some_iff.1 hx).1
     have hm:=List.mem_of_getElem? hx
     have e88:C (k+13) 80 [da d,.cap [.list 3 a] 0]=bo (!vd d):=by
      show C (k+12+1) 80 [.agg [.d (.list 2 (A1 d.body)),.d (.list 2 (A1 d.head)),.d (.bool d.egd),.d (.int .i64 d.l),.d (.int .i64 d.r)],.cap [.list 3 a] 0]=_
      rw [F80.run]
      have:=((hvd d hm).2 k hk).1
      unfold da at this
      rw [this,bB];rfl
     rw [F135.L2.succ,zbt,ite'_t (lt_t hi),ite'_t (zn hi),DD_0 hx,zf,DD_1 hx,zf,DD_2 hx,zt,DD_3 hx,zd,DD_4 hx,zd,zz hi (m:=ds.length) (by omega)]
     unfold da at e88
     simp only [List.map_cons,List.map_nil,List.append_eq,List.nil_append] at e88 ⊢
     rw [e88,bB];rfl)
    (fun n=>by rw [F135.L2.succ,ite'_f (lt_f (by omega))]) (k+13) (by omega)
   rcases this with ⟨i,x,hx,hst,e⟩ | ⟨hst,e⟩
   ·rw [show F135.L2 (k+13) (C (k+13)) (k+13) (DD ds) 80 [[.list 3 a]] (ds.length:Int) 0=_ from e]
    simp only [zi,zw,zd]
    exact zas (by rw [List.any_eq_true.2 ⟨x,List.mem_of_getElem? hx,hst⟩];simp)
   ·rw [show F135.L2 (k+13) (C (k+13)) (k+13) (DD ds) 80 [[.list 3 a]] (ds.length:Int) 0=_ from e]
    simp only [zi,zw,zd]
    refine zas ?_
    rw [List.any_eq_false.2 (fun x hx=>?_)]
    ·rfl
    ·obtain ⟨i,hi⟩:=List.mem_iff_getElem?.1 hx
     simpa using hst i x hi
  constructor
  ·rw [F41.run,(hrb (k+12) (by omega)).1,bB,zbt,e87,bB]
   cases rb with
   | false=>rfl
   | true =>
    rw [ite'_t rfl]
    cases decide ((ds.length:Int)≤5) with
    | false=>rfl
    | true =>
     rw [ite'_t rfl]
     exact zas (zbv ds vd)
  ·rw [F59.run]
   have:=zbd (xs:=ds) (L:=fun n i=>F59.L2 (k+15) (C (k+15)) n a (DD ds) i) (stop:=fun d=>!vd d) (hit:=bo false) (fin:=bo (rb&&decide ((ds.length:Int)≤5)))
    (fun n i d hx=>by
     have hi:=(List.getElem?_eq_some_iff.1 hx).1
     have hm:=List.mem_of_getElem? hx
     have e68:=((hvd d hm).2 (k+3) (by omega)).2
     unfold da at e68
     rw [F59.L2.succ,zbt,ite'_t (lt_t hi),ite'_t (zn hi),DD_0 hx,zf,DD_1 hx,zf,DD_2 hx,zt,DD_3 hx,zd,DD_4 hx,zd,zz hi (m:=ds.length) (by omega)]
     rw [show (C (k+15) 108 [.d (.list 3 a),.agg [.d (.list 2 (A1 d.body)),.d (.list 2 (A1 d.head)),.d (.bool d.egd),.d (.int .i64 d.l),.d (.int .i64 d.r)]])=bo (vd d) from e68,bB];rfl)
    (fun n=>by
     rw [F59.L2.succ,zbt,ite'_f (lt_f (by omega)),(hrb (k+12) (by omega)).2,bB]
     cases rb<;>rfl) (k+15) (by omega)
   rw [show F59.L2 (k+15) (C (k+15)) (k+15) a (DD ds) 0=_ from this,← zbv ds vd]
   cases (ds.any fun d=>!vd d)<;>cases rb<;>cases decide ((ds.length:Int)≤5)<;>rfl
end Go.Proofs.YtiacahdabflcdaaGreat.Q
namespace Go.Proofs.YtiacahdabflcdaaGreat.Q
open Go Ovi
variable {k:Nat}
theorem zjX (n:Int):(n != n)=false:=by simp
theorem c64 {xs ys:Ovi.Rows} {m m':Int} (h:zR zaZ xs m=some (ys,m')) (h0:0≤m) (h1:m'≤4611686018427387904) (hl:ys.length≤1048576) (hk:2000000≤k):C (k+1) 64 [.d (.list 1 ys),.d (.int .i64 m)]=some [(false,[.d (.int .i64 m')])]:=by
 have hmax:(1048576:Nat)≤maxLen:=by decide
 obtain ⟨κ,q0,q1,q2,q3⟩:=zdB h
 rw [F64.run]
 have key:∀ (a i n:Nat),i+a=ys.length→a < n→F64.L2 k (C k) n ys (κ i) (i:Int)=some [(false,[.d (.int .i64 m')])]:=by
  intro a
  induction a with
  | zero =>
   intro i n hm hn
   obtain ⟨n,rfl⟩:∃ j,n=j+1:=⟨n - 1,by omega⟩
   obtain rfl:i=ys.length:=by omega
   rw [F64.L2.succ,ite'_f (lt_f (by omega)),q1]
  | succ a ih =>
   intro i n hm hn
   obtain ⟨n,rfl⟩:∃ j,n=j+1:=⟨n - 1,by omega⟩
   have hi:i < ys.length:=by omega
   obtain ⟨r,r',p1,p2,p3⟩:=q3 i hi
   obtain ⟨z,_,rfl,e⟩:=zdG p3
   have b1:=zeF zaD q3 (Nat.zero_le i) (by omega)
   have b2:=zeF zaD q3 (show i+1≤ys.length by omega) (Nat.le_refl _)
   rw [F64.L2.succ,ite'_t (lt_t hi),ite'_t (zn hi)]
   simp only [Int.toNat_natCast,zG p2,List.getElem?_cons_zero,Option.bind_some,zy,zd]
   rw [ite'_f (zjX _),zae (by omega) (by omega),zaf (m:=ys.length) (by omega) (by omega) (by omega),show ((i:Int)+1)=((i+1:Nat):Int) by omega,← e]
   exact ih (i+1) n (by omega) (by omega)
 have:=key ys.length 0 k (by omega) (by omega)
 rwa [q0] at this
theorem zpA (n:Nat):zeb [[D.int .u8 (IntKind.u8.wrap (IntKind.i64.wrap ((48:Int)+((n:Int)).tmod 10)))]]=some [UInt8.ofNat (48+n % 10)]:=by
 have h1:((n:Int)).tmod 10=((n % 10:Nat):Int):=by
  rw [Int.tmod_eq_emod_of_nonneg (by omega)];omega
 have h2:n % 10 < 10:=Nat.mod_lt _ (by decide)
 rw [h1]
 generalize n % 10=d at h2
 match d,h2 with
 | 0,_=>rfl
 | 1,_=>rfl
 | 2,_=>rfl
 | 3,_=>rfl
 | 4,_=>rfl
 | 5,_=>rfl
 | 6,_=>rfl
 | 7,_=>rfl
 | 8,_=>rfl
 | 9,_=>rfl
theorem l99 (k:Nat) (call:zh):∀ (f n K:Nat) (acc:List UInt8),f < K→n < 10 ^ f→n≤4611686018427387904→acc.length+f≤1000→F97.L4 k call K (n:Int) acc=some [(false,[.d (.str (109::digs f n acc))])]:=by
 intro f
 induction f with
 | zero =>
  intro n K acc hK hn _ hl
  obtain ⟨K,rfl⟩:∃ j,K=j+1:=⟨K - 1,by omega⟩
  obtain rfl:n=0:=by simpa using hn
  rw [F97.L4.succ,ite'_f (by decide),ite'_t (zQ (by omega))]
  rfl
 | succ f ih =>
  intro n K acc hK hn hn2 hl
  obtain ⟨K,rfl⟩:∃ j,K=j+1:=⟨K - 1,by omega⟩
  by_cases h0:n=0
  ·subst h0
   rw [F97.L4.succ,ite'_f (by decide),ite'_t (zQ (by omega))]
   rfl
  ·have hd:IntKind.i64.wrap (((n:Int)).tdiv 10)=((n / 10:Nat):Int):=by
    rw [Int.tdiv_eq_ediv_of_nonneg (by omega),zae (by omega) (by omega)];omega
   rw [F97.L4.succ,ite'_t (by simp only [decide_eq_true_eq];omega),zpA,zB,hd]
   rw [ite'_t (zQ (by simp only [List.length_cons,List.length_nil];omega))]
   have h10:n / 10 < 10 ^ f:=by
    rw [Nat.pow_succ] at hn
    exact Nat.div_lt_of_lt_mul (by omega)
   rw [ih (n / 10) K ([UInt8.ofNat (48+n % 10)]++acc) (by omega) h10 (by omega) (by simp only [List.length_append,List.length_cons,List.length_nil];omega)]
   simp only [digs,if_neg h0,List.singleton_append]
theorem e103 (k:Nat) (call:zh) (m:Int) (h0:0≤m) (h1:m≤4611686018427387904) (hk:2000≤k):zcI P hs call 97 k Tryz.f97 [.d (.int .i64 m)]=some [(false,[.d (.str (mt m))])]:=by
 rw [F97.eq]
 by_cases hm:m≤0
 ·rw [ite'_t (by simpa using hm)]
  simp only [mt,if_pos hm]
 ·rw [ite'_f (by simpa using hm)]
  obtain ⟨n,rfl⟩:∃ n:Nat,m=n:=⟨m.toNat,by omega⟩
  rw [l99 k call 64 n k [] (by omega) (Nat.lt_of_le_of_lt (show n≤4611686018427387904 by omega) (by decide)) (by omega) (by simp)]
  simp only [mt,if_neg hm,Int.toNat_natCast]
variable {k:Nat}
variable {k:Nat}
theorem zf5 {α:Type} (c:Nat):∀ l:List α,(l.map fun _=>c).sum=c * l.length
 | []=>rfl
 | x::r=>by simp only [List.map_cons,List.sum_cons,List.length_cons,zf5 c r,Nat.mul_add];omega
theorem ziz (zs:List Int) (m:Int):∃ ys,zR zaZ (I1 zs) m=some (ys,m+zs.length):=by
 obtain ⟨ys,h⟩:=zbA (step:=zaZ) (c:=fun _=>1) (xs:=I1 zs) (fun r hr k=>by
  obtain ⟨z,_,rfl⟩:=List.mem_map.1 hr
  exact ⟨_,rfl⟩) m
 refine ⟨ys,?_⟩
 rw [h,zf5,zl,Nat.one_mul]
theorem zn8 {a:Ovi.Rows} (ha:Fit Rl (.list 3 a)) (m:Int):∃ ys,zR (zbC mt) a m=some (ys,m+3 * a.length):=by
 obtain ⟨ys,h⟩:=zbA (step:=zbC mt) (c:=fun _=>3) (xs:=a) (fun r hr k=>by
  unfold Rl at ha
  simp only [Fit] at ha
  obtain ⟨x0,r0,rfl,h0,hf0⟩:=Fits.cons (ha.2.2 r hr)
  obtain ⟨x1,r1,rfl,h1,hf1⟩:=Fits.cons hf0
  obtain ⟨x2,r2,rfl,h2,hf2⟩:=Fits.cons hf1
  obtain rfl:=Fits.nil hf2
  obtain ⟨s,rfl,_⟩:=h0.str
  obtain ⟨z,rfl,_⟩:=h1.int
  obtain ⟨t,rfl⟩:=h2.bool
  exact ⟨[.str (mt k),.int .i64 (k+1),.bool ((k+1+1) % 3==0)],by simp only [zbC,Option.some.injEq,Prod.mk.injEq,true_and];omega⟩) m
 refine ⟨ys,?_⟩
 rw [h,zf5]
 simp only [Option.some.injEq,Prod.mk.injEq,true_and]
 omega
theorem zeN (xs:List Atom) (m:Int):∃ ys,zR zar (A1 xs) m=some (ys,m+(xs.length+zC xs:Nat)):=by
 obtain ⟨ys,h⟩:=zbA (step:=zar) (c:=fun r=>match r with | [_,.list _ l]=>1+l.length | _=>0) (xs:=A1 xs) (fun r hr k=>by
  obtain ⟨x,_,rfl⟩:=List.mem_map.1 hr
  obtain ⟨ys,h⟩:=ziz x.2 (k+1)
  refine ⟨[.int .i64 k,.list 1 ys],?_⟩
  simp only [zar,h,Option.map_some,zl,Option.some.injEq,Prod.mk.injEq,true_and]
  omega) m
 refine ⟨ys,?_⟩
 rw [h]
 congr 2
 have:((A1 xs).map fun r=>match r with | [_,.list _ l]=>1+l.length | _=>0).sum=xs.length+zC xs:=by
  clear h
  induction xs with
  | nil=>rfl
  | cons x r ih =>
   simp only [A1,List.map_cons,List.sum_cons,List.length_cons,zC,zl] at ih ⊢
   omega
 rw [this]
theorem e17 {a f a' f':Ovi.Rows} {m1 m2:Int} (h1:zR (zbC mt) a 1=some (a',m1)) (h2:zR zar f m1=some (f',m2)) (hb:m2≤4611686018427387904):C (k+1) 17 [.var 0 0,.d (.bool true),.d (.int .i64 1),.d (.int .i64 ((112:Nat):Int)),.d (.list 3 a),.d (.int .i64 ((114:Nat):Int)),.d (.list 2 f)]=some [(false,[.row 112 3 a']),(false,[.row 114 2 f']),(false,[.d (.int .i64 m2)])]:=by
 rw [zcQ (p:=za3 true (mkAg (zbo mt))) rfl]
 have hs:zbo mt [.list 3 a,.list 2 f] 1=some ([.list 3 a',.list 2 f'],m2):=by
  simp only [zbo,h1,Option.bind_some,h2,Option.map_some]
 have hp:zaR [.d (.int .i64 ((112:Nat):Int)),.d (.list 3 a),.d (.int .i64 ((114:Nat):Int)),.d (.list 2 f)]=some [.row 112 3 a,.row 114 2 f]:=rfl
 have hm:mkAg (zbo mt) [.row 112 3 a,.row 114 2 f] 1=some ([.row 112 3 a',.row 114 2 f'],m2):=by
  simp only [mkAg,List.map_cons,List.map_nil,toD,hs,Option.map_some,ofD]
 simp only [za3]
 rw [show (true==true&&decide ((0:Int)≤1))=true from rfl,cond_true,hp]
 simp only [Option.bind_some,hm,decide_eq_true hb,cond_true]
 rfl
theorem znX {a:Ovi.Rows} (ha:Fit Rl (.list 3 a)):depR 0 a=true:=by
 unfold Rl at ha
 simp only [Fit] at ha
 refine List.all_eq_true.2 fun r hr=>?_
 obtain ⟨x0,r0,rfl,h0,hf0⟩:=Fits.cons (ha.2.2 r hr)
 obtain ⟨x1,r1,rfl,h1,hf1⟩:=Fits.cons hf0
 obtain ⟨x2,r2,rfl,h2,hf2⟩:=Fits.cons hf1
 obtain rfl:=Fits.nil hf2
 obtain ⟨s,rfl,_⟩:=h0.str
 obtain ⟨z,rfl,_⟩:=h1.int
 obtain ⟨t,rfl⟩:=h2.bool
 rfl
theorem zdN (xs:List Atom):depR 1 (A1 xs)=true:=by
 refine List.all_eq_true.2 fun r hr=>?_
 obtain ⟨x,_,rfl⟩:=List.mem_map.1 hr
 simp only [List.all_cons,List.all_nil,Bool.and_true,depD,Bool.true_and,List.all_eq_true]
 intro r hr y hy
 obtain ⟨z,_,rfl⟩:=List.mem_map.1 hr
 simp only [List.mem_singleton] at hy
 subst hy
 rfl
theorem l28 {k:Nat} (hk:2000001≤k) {a:Ovi.Rows} (ha:Fit (.list [.list [.int .i64]]) (.list 1 a)) (hs:szR a≤1048576):∀ (m i n:Nat),i+m=a.length→m < n→F28.L4 k (C k) n a a (i:Int)=some [(false,[.d (.bool true)])]:=by
 have hlen:=ha.len
 intro m;induction m with
 | zero =>
  intro i n hm hn
  obtain ⟨n,rfl⟩:∃ j,n=j+1:=⟨n - 1,by omega⟩
  rw [F28.L4.succ,ite'_f (lt_f (by omega))]
 | succ m ih =>
  intro i n hm hn
  obtain ⟨n,rfl⟩:∃ j,n=j+1:=⟨n - 1,by omega⟩
  obtain ⟨row,hr,hfr,hdr⟩:=ha.row (i:=i) (by omega)
  obtain ⟨d0,rr0,rfl,hd0,hfr0⟩:=Fits.cons hfr
  obtain ⟨x0,rfl,hx0⟩:=hd0.list (n:=1) rfl
  obtain rfl:=Fits.nil hfr0
  have hszr:=za2 hr
  rw [F28.L4.succ,ite'_t (lt_t (by omega)),ite'_t (zn (by omega))]
  simp only [Int.toNat_natCast,zG hr,zai hr,zaj hr,zV hr]
  simp only [List.getElem?_cons_zero,List.getElem?_cons_succ,Option.bind_some,zy,zO,zP,zJ,zd,zt,zB,zf,zi,zw,zH,zL,zu,zI,bne_self_eq_false,beq_self_eq_true,Bool.not_true]
  rw [ite'_t (zn (by omega))]
  rw [c16 (k:=k) (by omega)  hx0 (by simp only [szC,szD] at hszr ⊢;omega)]
  simp only [List.getElem?_cons_zero,List.getElem?_cons_succ,Option.bind_some,zy,zO,zP,zJ,zd,zt,zB,zf,zi,zw,zH,zL,zu,zI,bne_self_eq_false,beq_self_eq_true,Bool.not_true]
  rw [ite'_f rfl,zaf (m:=a.length) (by omega) (by omega) hlen]
  rw [show ((i:Int)+1)=((i+1:Nat):Int) by omega]
  exact ih (i+1) n (by omega) (by omega)
theorem zmp (B:BL) (h:∀ b∈B,∀ z∈b,inI z) (hl:B.length≤maxLen) (hb:∀ b∈B,b.length≤maxLen):Fit (.list [.list [.int .i64]]) (.list 1 (LL B)):=by
 simp only [Fit]
 refine ⟨rfl,by rw [zx];exact hl,fun r hr=>?_⟩
 obtain ⟨b,hb',rfl⟩:=List.mem_map.1 hr
 simp only [Fits,Fit]
 refine ⟨⟨rfl,by rw [zl];exact hb b hb',fun r hr=>?_⟩,trivial⟩
 obtain ⟨z,hz,rfl⟩:=List.mem_map.1 hr
 simp only [Fits,Fit]
 have hz':=h b hb' z hz
 unfold inI at hz'
 refine ⟨⟨trivial,?_⟩,trivial⟩
 simp only [Lit.wf,IntKind.min,IntKind.max,IntKind.signed,IntKind.bits,Bool.and_eq_true,decide_eq_true_eq]
 simpa using hz'
def tot (B:BL):Nat:=(B.map List.length).sum
theorem zmX (B:BL) (m:Int):∃ ys,zR zaM (LL B) m=some (ys,m+(tot B:Nat)):=by
 obtain ⟨ys,h⟩:=zbA (step:=zaM) (c:=fun r=>match r with | [.list _ l]=>l.length | _=>0) (xs:=LL B) (fun r hr k=>by
  obtain ⟨b,_,rfl⟩:=List.mem_map.1 hr
  obtain ⟨ys,h⟩:=ziz b k
  refine ⟨[.list 1 ys],?_⟩
  simp only [zaM,h,Option.map_some,zl]) m
 refine ⟨ys,?_⟩
 rw [h]
 congr 2
 have:((LL B).map fun r=>match r with | [.list _ l]=>l.length | _=>0).sum=tot B:=by
  clear h
  unfold tot
  induction B with
  | nil=>rfl
  | cons x r ih =>
   simp only [LL,List.map_cons,List.sum_cons,zl] at ih ⊢
   omega
 rw [this]
theorem e34 {a a':Ovi.Rows} {m:Int} (h1:zR zaM a 1=some (a',m)) (hb:m≤4611686018427387904):C (k+1) 31 [.var 0 0,.d (.bool false),.d (.int .i64 1),.d (.int .i64 ((27:Nat):Int)),.d (.list 1 a)]=some [(false,[.row 27 1 a']),(false,[.d (.int .i64 m)])]:=by
 rw [zcQ (p:=za3 false (mkLs 1 (zR zaM))) rfl]
 have hp:zaR [.d (.int .i64 ((27:Nat):Int)),.d (.list 1 a)]=some [.row 27 1 a]:=rfl
 have hm:mkLs 1 (zR zaM) [.row 27 1 a] 1=some ([.row 27 1 a'],m):=by
  simp only [mkLs,show Nat.beq 1 1=true from rfl,cond_true,h1,Option.map_some]
 simp only [za3]
 rw [show (false==false&&decide ((0:Int)≤1))=true from rfl,cond_true,hp]
 simp only [Option.bind_some,hm,decide_eq_true hb,cond_true]
 rfl
theorem zdO (B:BL):depR 1 (LL B)=true:=by
 refine List.all_eq_true.2 fun r hr=>?_
 obtain ⟨x,_,rfl⟩:=List.mem_map.1 hr
 simp only [List.all_cons,List.all_nil,Bool.and_true,depD,Bool.true_and,List.all_eq_true]
 intro r hr y hy
 obtain ⟨z,_,rfl⟩:=List.mem_map.1 hr
 simp only [List.mem_singleton] at hy
 subst hy
 rfl
def Dt:Ty:=.list [.list [.int .i64,.list [.int .i64]],.list [.int .i64,.list [.int .i64]],.bool,.int .i64,.int .i64]
theorem zmR {a:Ovi.Rows} (h:Fit Dt (.list 5 a)):∃ ds:List Dep,a=DD ds:=by
 simp only [Fit,Dt] at h
 replace h:=h.2.2
 induction a with
 | nil=>exact ⟨[],rfl⟩
 | cons r rs ih =>
  obtain ⟨d0,r0,rfl,h0,hr⟩:=Fits.cons (h r List.mem_cons_self)
  obtain ⟨d1,r1,rfl,h1,hr⟩:=Fits.cons hr
  obtain ⟨d2,r2,rfl,h2,hr⟩:=Fits.cons hr
  obtain ⟨d3,r3,rfl,h3,hr⟩:=Fits.cons hr
  obtain ⟨d4,r4,rfl,h4,hr⟩:=Fits.cons hr
  obtain rfl:=Fits.nil hr
  obtain ⟨b,rfl,hb⟩:=h0.list (n:=2) rfl
  obtain ⟨c,rfl,hc⟩:=h1.list (n:=2) rfl
  obtain ⟨e,rfl⟩:=h2.bool
  obtain ⟨x,rfl,_⟩:=h3.int
  obtain ⟨y,rfl,_⟩:=h4.int
  obtain ⟨bs,rfl,_⟩:=hb.atoms'
  obtain ⟨cs,rfl,_⟩:=hc.atoms'
  obtain ⟨ds,e⟩:=ih (fun x hx=>h x (List.mem_cons_of_mem _ hx))
  exact ⟨⟨bs,cs,_,x,y⟩::ds,by rw [e];rfl⟩
theorem zos {ds:List Dep} (h:szD (.list 5 (DD ds))≤1048576):ds.length≤1048576∧∀ d∈ds,Dsz d:=by
 simp only [szD,zbt] at h
 refine ⟨by omega,fun d hd=>?_⟩
 obtain ⟨i,hi⟩:=List.mem_iff_getElem?.1 hd
 have:=za2 (zd8 hi)
 simp only [szC,zcG] at this
 unfold Dsz
 have e1:szD (.list 2 (A1 d.body))=d.body.length+zC d.body:=zcG
 have e2:szD (.list 2 (A1 d.head))=d.head.length+zC d.head:=zcG
 omega
def fc (b:Ovi.Rows):Nat:=(b.map fun r=>match r with | [_,.list _ l]=>1+l.length | _=>0).sum
theorem zjz (xs:List Atom):fc (A1 xs)=xs.length+zC xs:=by
 unfold fc
 induction xs with
 | nil=>rfl
 | cons x r ih =>
  simp only [A1,List.map_cons,List.sum_cons,List.length_cons,zC,zl] at ih ⊢
  omega
def dc (r:List D):Nat:=match r with
 | [.list _ b,.list _ h,_,_,_]=>fc b+fc h+3
 | _=>0
theorem zkG {α:Type} (c:α→Nat) (B:Nat):∀ l:List α,(∀ x∈l,c x≤B)→(l.map c).sum≤B * l.length
 | [],_=>by simp
 | x::r,h=>by
  have h1:=h x List.mem_cons_self
  have h2:=zkG c B r fun y hy=>h y (List.mem_cons_of_mem _ hy)
  simp only [List.map_cons,List.sum_cons,List.length_cons,Nat.mul_add,Nat.mul_one]
  omega
theorem znW (ds:List Dep) (hz:∀ d∈ds,Dsz d) (m:Int):∃ ys m',zR za8 (DD ds) m=some (ys,m')∧m≤m'∧m'≤m+2097155 * (ds.length:Int):=by
 obtain ⟨ys,h⟩:=zbA (step:=za8) (c:=dc) (xs:=DD ds) (fun r hr k=>by
  obtain ⟨d,_,rfl⟩:=List.mem_map.1 hr
  obtain ⟨b',hb⟩:=zeN d.body k
  obtain ⟨h',hh⟩:=zeN d.head (k+(d.body.length+zC d.body:Nat))
  refine ⟨[.list 2 b',.list 2 h',.bool ((k+(d.body.length+zC d.body:Nat)+(d.head.length+zC d.head:Nat)) % 3==0),.int .i64 (k+(d.body.length+zC d.body:Nat)+(d.head.length+zC d.head:Nat)+1),.int .i64 (k+(d.body.length+zC d.body:Nat)+(d.head.length+zC d.head:Nat)+1+1)],?_⟩
  simp only [za8,hb,Option.bind_some,hh,Option.map_some,dc,zjz,Option.some.injEq,Prod.mk.injEq,true_and]
  omega) m
 refine ⟨ys,_,h,by omega,?_⟩
 have:=zkG dc 2097155 (DD ds) fun r hr=>by
  obtain ⟨d,hd,rfl⟩:=List.mem_map.1 hr
  have:=hz d hd
  unfold Dsz at this
  simp only [dc,zjz]
  omega
 rw [zbt] at this
 omega
theorem e52 {a a':Ovi.Rows} {m m2:Int} (h1:zR za8 a m=some (a',m2)) (h0:0≤m) (hb:m2≤4611686018427387904):C (k+1) 18 [.var 0 0,.d (.bool false),.d (.int .i64 m),.d (.int .i64 ((76:Nat):Int)),.d (.list 5 a)]=some [(false,[.row 76 5 a']),(false,[.d (.int .i64 m2)])]:=by
 rw [zcQ (p:=za3 false (mkLs 5 (zR za8))) rfl]
 have hp:zaR [.d (.int .i64 ((76:Nat):Int)),.d (.list 5 a)]=some [.row 76 5 a]:=rfl
 have hm:mkLs 5 (zR za8) [.row 76 5 a] m=some ([.row 76 5 a'],m2):=by
  simp only [mkLs,show Nat.beq 5 5=true from rfl,cond_true,h1,Option.map_some]
 simp only [za3]
 rw [show (false==false&&decide ((0:Int)≤m))=true by rw [decide_eq_true h0];rfl,cond_true,hp]
 simp only [Option.bind_some,hm,decide_eq_true hb,cond_true]
 rfl
theorem zmO (ds:List Dep):depR 2 (DD ds)=true:=by
 refine List.all_eq_true.2 fun r hr=>?_
 obtain ⟨d,_,rfl⟩:=List.mem_map.1 hr
 have hb:=zdN d.body
 have hh:=zdN d.head
 simp only [List.all_cons,List.all_nil,Bool.and_true,depD,Bool.true_and]
 unfold depR at hb hh
 rw [hb,hh]
 rfl
abbrev Qy:=List Int × List Atom
def QQ (qs:List Qy):Ovi.Rows:=qs.map fun q=>[.list 1 (I1 q.1),.list 2 (A1 q.2)]
def Qt:Ty:=.list [.list [.int .i64],.list [.int .i64,.list [.int .i64]]]
theorem zd9 (qs:List Qy):(QQ qs).length=qs.length:=by simp [QQ]
theorem zjO {qs:List Qy} {i:Nat} {q:Qy} (h:qs[i]? = some q):(QQ qs)[i]? = some [.list 1 (I1 q.1),.list 2 (A1 q.2)]:=by simp [QQ,h]
theorem QQ_0 {qs:List Qy} {i:Nat} {q:Qy} (h:qs[i]? = some q):zq 1 (QQ qs) (i:Int).toNat 0=some (I1 q.1):=by rw [Int.toNat_natCast,zV (zjO h)];simp [zJ]
theorem QQ_1 {qs:List Qy} {i:Nat} {q:Qy} (h:qs[i]? = some q):zq 2 (QQ qs) (i:Int).toNat 1=some (A1 q.2):=by rw [Int.toNat_natCast,zV (zjO h)];simp [zJ]
theorem zox {a:Ovi.Rows} (h:Fit Qt (.list 2 a)):∃ qs:List Qy,a=QQ qs:=by
 simp only [Fit,Qt] at h
 replace h:=h.2.2
 induction a with
 | nil=>exact ⟨[],rfl⟩
 | cons r rs ih =>
  obtain ⟨d0,r0,rfl,h0,hr⟩:=Fits.cons (h r List.mem_cons_self)
  obtain ⟨d1,r1,rfl,h1,hr⟩:=Fits.cons hr
  obtain rfl:=Fits.nil hr
  obtain ⟨b,rfl,hb⟩:=h0.list (n:=1) rfl
  obtain ⟨c,rfl,hc⟩:=h1.list (n:=2) rfl
  obtain ⟨bs,rfl⟩:=hb.ints
  obtain ⟨cs,rfl,_⟩:=hc.atoms'
  obtain ⟨qs,e⟩:=ih (fun x hx=>h x (List.mem_cons_of_mem _ hx))
  exact ⟨(bs,cs)::qs,by rw [e];rfl⟩
theorem zp0 {qs:List Qy} (h:szD (.list 2 (QQ qs))≤1048576):qs.length≤1048576∧∀ q∈qs,q.1.length≤1048576∧zC q.2+q.2.length≤1048576:=by
 simp only [szD,zd9] at h
 refine ⟨by omega,fun q hq=>?_⟩
 obtain ⟨i,hi⟩:=List.mem_iff_getElem?.1 hq
 have:=za2 (zjO hi)
 simp only [szC,zcG,ziL] at this
 have e1:szD (.list 1 (I1 q.1))=q.1.length:=ziL
 have e2:szD (.list 2 (A1 q.2))=q.2.length+zC q.2:=zcG
 omega
def qc (r:List D):Nat:=match r with
 | [.list _ b,.list _ h]=>b.length+fc h
 | _=>0
theorem zpZ (qs:List Qy) (hz:∀ q∈qs,q.1.length≤1048576∧zC q.2+q.2.length≤1048576) (m:Int):∃ ys m',zR zaB (QQ qs) m=some (ys,m')∧m≤m'∧m'≤m+2097155 * (qs.length:Int):=by
 obtain ⟨ys,h⟩:=zbA (step:=zaB) (c:=qc) (xs:=QQ qs) (fun r hr k=>by
  obtain ⟨q,_,rfl⟩:=List.mem_map.1 hr
  obtain ⟨b',hb⟩:=ziz q.1 k
  obtain ⟨h',hh⟩:=zeN q.2 (k+q.1.length)
  refine ⟨[.list 1 b',.list 2 h'],?_⟩
  simp only [zaB,hb,Option.bind_some,hh,Option.map_some,qc,zjz,zl,Option.some.injEq,Prod.mk.injEq,true_and]
  omega) m
 refine ⟨ys,_,h,by omega,?_⟩
 have:=zkG qc 2097155 (QQ qs) fun r hr=>by
  obtain ⟨q,hq,rfl⟩:=List.mem_map.1 hr
  have:=hz q hq
  simp only [qc,zjz,zl]
  omega
 rw [zd9] at this
 omega
theorem eQ {a a':Ovi.Rows} {m m2:Int} (h1:zR zaB a m=some (a',m2)) (h0:0≤m) (hb:m2≤4611686018427387904):C (k+1) 30 [.var 0 0,.d (.bool false),.d (.int .i64 m),.d (.int .i64 ((99:Nat):Int)),.d (.list 2 a)]=some [(false,[.row 99 2 a']),(false,[.d (.int .i64 m2)])]:=by
 rw [zcQ (p:=za3 false (mkLs 2 (zR zaB))) rfl]
 have hp:zaR [.d (.int .i64 ((99:Nat):Int)),.d (.list 2 a)]=some [.row 99 2 a]:=rfl
 have hm:mkLs 2 (zR zaB) [.row 99 2 a] m=some ([.row 99 2 a'],m2):=by
  simp only [mkLs,show Nat.beq 2 2=true from rfl,cond_true,h1,Option.map_some]
 simp only [za3]
 rw [show (false==false&&decide ((0:Int)≤m))=true by rw [decide_eq_true h0];rfl,cond_true,hp]
 simp only [Option.bind_some,hm,decide_eq_true hb,cond_true]
 rfl
theorem zor (qs:List Qy):depR 2 (QQ qs)=true:=by
 refine List.all_eq_true.2 fun r hr=>?_
 obtain ⟨q,_,rfl⟩:=List.mem_map.1 hr
 have hh:=zdN q.2
 have hb:depR 1 (I1 q.1)=true:=by
  refine List.all_eq_true.2 fun r hr=>?_
  obtain ⟨z,_,rfl⟩:=List.mem_map.1 hr
  rfl
 simp only [List.all_cons,List.all_nil,Bool.and_true,depD]
 unfold depR at hb hh
 rw [hb,hh]
 rfl
theorem l28G {k:Nat} (hk:2000001≤k) {a:Ovi.Rows} (ha:Fit (.list [.list [.int .i64]]) (.list 1 a)) (h3:∀ r∈a,∀ l,r=[.list 1 l]→szD (.list 1 l)≤1048576):∀ (m i n:Nat),i+m=a.length→m < n→F28.L4 k (C k) n a a (i:Int)=some [(false,[.d (.bool true)])]:=by
 have hlen:=ha.len
 intro m;induction m with
 | zero =>
  intro i n hm hn
  obtain ⟨n,rfl⟩:∃ j,n=j+1:=⟨n - 1,by omega⟩
  rw [F28.L4.succ,ite'_f (lt_f (by omega))]
 | succ m ih =>
  intro i n hm hn
  obtain ⟨n,rfl⟩:∃ j,n=j+1:=⟨n - 1,by omega⟩
  obtain ⟨row,hr,hfr,hdr⟩:=ha.row (i:=i) (by omega)
  obtain ⟨d0,rr0,rfl,hd0,hfr0⟩:=Fits.cons hfr
  obtain ⟨x0,rfl,hx0⟩:=hd0.list (n:=1) rfl
  obtain rfl:=Fits.nil hfr0
  have hszr:=za2 hr
  rw [F28.L4.succ,ite'_t (lt_t (by omega)),ite'_t (zn (by omega))]
  simp only [Int.toNat_natCast,zG hr,zai hr,zaj hr,zV hr]
  simp only [List.getElem?_cons_zero,List.getElem?_cons_succ,Option.bind_some,zy,zO,zP,zJ,zd,zt,zB,zf,zi,zw,zH,zL,zu,zI,bne_self_eq_false,beq_self_eq_true,Bool.not_true]
  rw [ite'_t (zn (by omega))]
  rw [c16 (k:=k) (by omega)  hx0 (h3 _ (List.mem_of_getElem? hr) x0 rfl)]
  simp only [List.getElem?_cons_zero,List.getElem?_cons_succ,Option.bind_some,zy,zO,zP,zJ,zd,zt,zB,zf,zi,zw,zH,zL,zu,zI,bne_self_eq_false,beq_self_eq_true,Bool.not_true]
  rw [ite'_f rfl,zaf (m:=a.length) (by omega) (by omega) hlen]
  rw [show ((i:Int)+1)=((i+1:Nat):Int) by omega]
  exact ih (i+1) n (by omega) (by omega)
theorem c28G {k:Nat} (hk:400000000002≤k) {a:Ovi.Rows} (ha:Fit (.list [.list [.int .i64]]) (.list 1 a)) (hs:a.length≤200000000000) (h3:∀ r∈a,∀ l,r=[.list 1 l]→szD (.list 1 l)≤1048576):C k 28 [.d (.list 1 a),.d (.list 1 a)]=some [(false,[.d (.bool true)])]:=by
 obtain ⟨k,rfl⟩:∃ j,k=j+1:=⟨k - 1,by omega⟩
 rw [F28.run,ite'_f (zeE _)]
 exact l28G (k:=k) (by omega) ha h3 a.length 0 k (by omega) (by omega)
theorem c32G {xs ys:Ovi.Rows} {m m':Int} (h:zR zaM xs m=some (ys,m')) (h0:0≤m) (h1:m'≤4611686018427387904) (hl:ys.length≤200000000000) (hin:∀ r∈xs,∀ l,r=[.list 1 l]→l.length≤1048576) (hk:400000000000≤k):C (k+2) 32 [.d (.list 1 ys),.d (.int .i64 m)]=some [(false,[.d (.int .i64 m')])]:=by
 have hmax:(200000000000:Nat)≤maxLen:=by decide
 obtain ⟨κ,q0,q1,q2,q3⟩:=zdB h
 rw [F32.run]
 have key:∀ (a i n:Nat),i+a=ys.length→a < n→F32.L2 (k+1) (C (k+1)) n ys (κ i) (i:Int)=some [(false,[.d (.int .i64 m')])]:=by
  intro a
  induction a with
  | zero =>
   intro i n hm hn
   obtain ⟨n,rfl⟩:∃ j,n=j+1:=⟨n - 1,by omega⟩
   obtain rfl:i=ys.length:=by omega
   rw [F32.L2.succ,ite'_f (lt_f (by omega)),q1]
  | succ a ih =>
   intro i n hm hn
   obtain ⟨n,rfl⟩:∃ j,n=j+1:=⟨n - 1,by omega⟩
   have hi:i < ys.length:=by omega
   obtain ⟨r,r',p1,p2,p3⟩:=q3 i hi
   obtain ⟨l,l',rfl,hm1,rfl⟩:=zc1 p3
   have b1:=zeF zb7 q3 (Nat.zero_le i) (by omega)
   have b2:=zeF zb7 q3 (show i+1≤ys.length by omega) (Nat.le_refl _)
   have b3:=z8 zaD hm1
   have b4:=hin _ (List.mem_of_getElem? p1) l rfl
   rw [F32.L2.succ,ite'_t (lt_t hi),ite'_t (zn hi)]
   simp only [Int.toNat_natCast,zV p2,List.getElem?_cons_zero,Option.bind_some,zJ,zf]
   rw [c64 hm1 (by omega) (by omega) (by omega) (by omega)]
   simp only [zi,zw,zd]
   rw [ite'_f (zaz (by omega)),zaf (m:=ys.length) (by omega) (by omega) (by omega),show ((i:Int)+1)=((i+1:Nat):Int) by omega]
   exact ih (i+1) n (by omega) (by omega)
 have:=key ys.length 0 (k+1) (by omega) (by omega)
 rwa [q0] at this
end Go.Proofs.YtiacahdabflcdaaGreat.Q
namespace Go.Proofs.YtiacahdabflcdaaGreat.Q
open Go Ovi
variable {k:Nat}
def val (b:List Int) (t:Int):Int:=if t ≥ 0 then b.getD t.toNat 0 else neg t
def insG (b:List Int):List Int→Option (List Int)
 | []=>some []
 | t::ts=>if okV (val b t) then (insG b ts).map (val b t::·) else none
def okO (r:Int) (acc:List Int):Option (List Int)→Option Res
 | some vs=>okI r (acc++vs)
 | none=>some [(true,[.d (.int .i64 0),.nil]),(false,[.d (.bool false)])]
theorem ze0 {r:Int} {acc:List Int} {v:Int} {b ts:List Int} {t:Int} (h:okV (val b t)=true) (hv:v=val b t):okO r (acc++[v]) (insG b ts)=okO r acc (insG b (t::ts)):=by
 subst hv
 rw [insG,if_pos h]
 cases insG b ts with
 | none=>rfl
 | some vs=>simp [okO]
theorem zkq {r:Int} {acc:List Int} {b ts:List Int} {t:Int} (h:okV (val b t)=false):okO r acc (insG b (t::ts))=some [(true,[.d (.int .i64 0),.nil]),(false,[.d (.bool false)])]:=by
 rw [insG,if_neg (by rw [h];decide)]
 rfl
theorem l91g (ts b:List Int) (r:Int) (hT:okT ts) (hz:ts.length≤1048576) (hb:b.length=5):∀ (m i n:Nat) (acc:List Int),i+m=ts.length→m < n→acc.length≤i→F91.L3 (k+2) (C (k+2)) n (I1 b) (I1 ts) (ts.length:Int) (i:Int) 0 [] r (I1 acc)=okO r acc (insG b (ts.drop i)):=by
 have hmax:(1048576:Nat)≤maxLen:=by decide
 intro m
 induction m with
 | zero =>
  intro i n acc hm hn ha
  obtain ⟨n,rfl⟩:∃ j,n=j+1:=⟨n - 1,by omega⟩
  obtain rfl:i=ts.length:=by omega
  rw [F91.L3.succ,ite'_f (lt_f (by omega)),List.drop_length,insG,okO,List.append_nil]
  rfl
 | succ m ih =>
  intro i n acc hm hn ha
  obtain ⟨n,rfl⟩:∃ j,n=j+1:=⟨n - 1,by omega⟩
  have hi:i < ts.length:=by omega
  have hg:=List.getElem?_eq_getElem hi
  have ht:=hT _ (List.getElem_mem hi)
  have hnx:=fun v=>ih (i+1) n (acc++[v]) (by omega) (by omega) (by rw [List.length_append,List.length_singleton];omega)
  rw [F91.L3.succ,ite'_t (lt_t hi),zl,ite'_t (zn hi),I1_c hg,zd,List.drop_eq_getElem_cons hi,zz hi (m:=ts.length) (by omega)]
  by_cases h0:ts[i] ≥ 0
  ·obtain ⟨q,hq⟩:∃ q:Nat,ts[i]=(q:Int):=⟨ts[i].toNat,by omega⟩
   have hq5:q < b.length:=by omega
   have hbq:b[q]? = some (b.getD q 0):=by rw [List.getD_eq_getElem?_getD,List.getElem?_eq_getElem hq5];rfl
   have hvl:val b ts[i]=b.getD q 0:=by unfold val;rw [if_pos h0,hq,Int.toNat_natCast]
   rw [ite'_t (by simpa using h0),hq,zl,ite'_f (decide_eq_false (by omega)),ite'_t (zn hq5),I1_c hbq,zd,c131 (k:=k) _,bB,← hvl,← hq]
   cases hok:okV (val b ts[i]) with
   | false=>rw [zkq hok];rfl
   | true =>
    rw [ite'_nt,zl,ite'_t (zQ (by simp only [List.length_cons,List.length_nil];omega)),zbO,hnx,ze0 hok rfl]
  ·have hvl:val b ts[i]=neg ts[i]:=by unfold val;rw [if_neg h0]
   rw [ite'_f (by simpa using h0),znz ht,c131 (k:=k),bB,zhV ht,ite'_nt,zl,ite'_t (zQ (by simp only [List.length_cons,List.length_nil];omega)),zbO,hnx,ze0 (by rw [hvl];exact zhV ht) hvl.symm]
theorem c91g (x:Atom) (b:List Int) (hT:okT x.2) (hz:x.2.length≤1048576) (hb:b.length=5) (hk:2000000≤k):C (k+3) 91 [.agg [.d (.int .i64 x.1),.d (.list 1 (I1 x.2))],.d (.list 1 (I1 b))]=okO x.1 [] (insG b x.2):=by
 rw [F91.run,zl]
 exact l91g x.2 b x.1 hT hz hb x.2.length 0 (k+2) [] (by omega) (by omega) (Nat.le_refl _)
theorem zpQ (ts b:List Int) (r:Int) (hT:okT ts) (hz:ts.length≤1048576) (hb:b.length=5) (hI:∀ v∈b,inI v):∀ (m i n:Nat) (acc:List Int),i+m=ts.length→m < n→acc.length≤i→F124.L3 (k+3) (C (k+3)) n (I1 b) (i:Int) r (I1 ts) 0 [] r (I1 acc)=okO r acc (insG b (ts.drop i)):=by
 have hmax:(1048576:Nat)≤maxLen:=by decide
 intro m
 induction m with
 | zero =>
  intro i n acc hm hn ha
  obtain ⟨n,rfl⟩:∃ j,n=j+1:=⟨n - 1,by omega⟩
  obtain rfl:i=ts.length:=by omega
  rw [F124.L3.succ,zl,ite'_f (lt_f (by omega)),List.drop_length,insG,okO,List.append_nil]
  rfl
 | succ m ih =>
  intro i n acc hm hn ha
  obtain ⟨n,rfl⟩:∃ j,n=j+1:=⟨n - 1,by omega⟩
  have hi:i < ts.length:=by omega
  have hg:=List.getElem?_eq_getElem hi
  have ht:=hT _ (List.getElem_mem hi)
  have hnx:=fun v=>ih (i+1) n (acc++[v]) (by omega) (by omega) (by rw [List.length_append,List.length_singleton];omega)
  rw [F124.L3.succ,zl,ite'_t (lt_t hi),ite'_t (zn hi),I1_c hg,zd,ite'_t (zn hi),zd,List.drop_eq_getElem_cons hi,zz hi (m:=ts.length) (by omega)]
  by_cases h0:ts[i] ≥ 0
  ·obtain ⟨q,hq⟩:∃ q:Nat,ts[i]=(q:Int):=⟨ts[i].toNat,by omega⟩
   have hq5:q < b.length:=by omega
   have hbq:b[q]? = some (b.getD q 0):=by rw [List.getD_eq_getElem?_getD,List.getElem?_eq_getElem hq5];rfl
   have hvl:val b ts[i]=b.getD q 0:=by unfold val;rw [if_pos h0,hq,Int.toNat_natCast]
   have hin:inI (b.getD q 0):=hI _ (List.mem_of_getElem? hbq)
   rw [ite'_t (by simpa using h0),ite'_t (zn hi),zd,hq,zl,ite'_f (decide_eq_false (by omega)),ite'_t (zn hi),zd,ite'_t (zn hq5),I1_c hbq,zd,c159 (k:=k) hin,bB,← hvl,← hq]
   cases hok:okV (val b ts[i]) with
   | false=>rw [zkq hok];rfl
   | true =>
    rw [ite'_nt,ite'_t (zn hi),zd,ite'_f (decide_eq_false (by omega)),zl,ite'_t (zQ (by simp only [List.length_cons,List.length_nil];omega)),zbO,hnx,ze0 hok rfl]
  ·have hvl:val b ts[i]=neg ts[i]:=by unfold val;rw [if_neg h0]
   rw [ite'_f (by simpa using h0),znz ht,c159 (k:=k) (zo0 ht),bB,zhV ht,ite'_nt,ite'_t (zn hi),zd,ite'_t (decide_eq_true (by omega)),ite'_f (decide_eq_false (by unfold neg;omega)),zl,ite'_t (zQ (by simp only [List.length_cons,List.length_nil];omega)),zbO,hnx,ze0 (by rw [hvl];exact zhV ht) hvl.symm]
theorem znp (x:Atom) (b:List Int) (hT:okT x.2) (hz:x.2.length≤1048576) (hb:b.length=5) (hI:∀ v∈b,inI v) (hk:2000000≤k):C (k+4) 124 [.agg [.d (.int .i64 x.1),.d (.list 1 (I1 x.2))],.d (.list 1 (I1 b))]=okO x.1 [] (insG b x.2):=by
 rw [F124.run]
 exact zpQ x.2 b x.1 hT hz hb hI x.2.length 0 (k+3) [] (by omega) (by omega) (Nat.le_refl _)
theorem zkf {b:List Int}:∀ {ts vs:List Int},insG b ts=some vs→vs.length=ts.length
 | [],vs,h=>by cases h;rfl
 | t::ts,vs,h=>by
  rw [insG] at h
  by_cases hok:okV (val b t)=true
  ·rw [if_pos hok] at h
   obtain ⟨ws,hw,rfl⟩:=Option.map_eq_some_iff.1 h
   rw [List.length_cons,List.length_cons,zkf hw]
  ·rw [if_neg hok] at h;cases h
theorem c186 (xs:List Atom) (f:Atom) (hx:∀ x∈xs,x.2.length≤1048576) (hl:xs.length≤1048576) (hk:2000000≤k):C (k+12) 186 [.d (.list 2 (A1 xs)),.agg [.d (.int .i64 f.1),.d (.list 1 (I1 f.2))]]=bo (decide (f∈xs)):=by
 have hmax:(1048576:Nat)≤maxLen:=by decide
 have e164:C (k+11) 213 [.d (.list 2 (A1 xs)),.d (.fn 214 [[.int .i64 f.1,.list 1 (I1 f.2)]])]=bo (xs.any fun x=>decide (x=f)):=by
  rw [F213.run,F241.run,zo]
  have:=zal (xs:=xs) (L:=fun n i=>F241.L2 (k+9) (C (k+9)) n (A1 xs) 214 [[.int .i64 f.1,.list 1 (I1 f.2)]] (xs.length:Int) i) (stop:=fun _ x=>decide (x=f)) (hit:=fun i=>some [(false,[.d (.int .i64 (i:Int))])]) (fin:=some [(false,[.d (.int .i64 (-1))])])
   (fun n i x hxi=>by
    have hi:=(List.getElem?_eq_some_iff.1 hxi).1
    have hxl:=hx x (List.mem_of_getElem? hxi)
    have e165:C (k+9) 214 [.agg [.d (.int .i64 x.1),.d (.list 1 (I1 x.2))],.cap [.int .i64 f.1,.list 1 (I1 f.2)] 0]=bo (decide (x=f)):=by
     rw [F214.run,F152.run,c77 (k:=k+2) x f (by omega) (by omega),iB']
     have:(cmpF x f==0)=decide (x=f):=by
      rw [Bool.eq_iff_iff,beq_iff_eq,decide_eq_true_eq]
      exact ziQ x f
     rw [this];rfl
    rw [F241.L2.succ,zo,ite'_t (lt_t hi),ite'_t (zn hi),zaS hxi,zd,zaT hxi,zf,zz hi (m:=xs.length) (by omega)]
    simp only [List.map_cons,List.map_nil,List.append_eq,List.nil_append] at e165 ⊢
    rw [e165,bB];rfl)
   (fun n=>by rw [F241.L2.succ,ite'_f (lt_f (by omega))]) (k+9) (by omega)
  rcases this with ⟨i,x,hxi,hst,e⟩ | ⟨hst,e⟩
  ·rw [show F241.L2 (k+9) (C (k+9)) (k+9) (A1 xs) 214 [[.int .i64 f.1,.list 1 (I1 f.2)]] (xs.length:Int) 0=_ from e]
   simp only [zi,zw,zd]
   exact zas (by rw [List.any_eq_true.2 ⟨x,List.mem_of_getElem? hxi,hst⟩];simp)
  ·rw [show F241.L2 (k+9) (C (k+9)) (k+9) (A1 xs) 214 [[.int .i64 f.1,.list 1 (I1 f.2)]] (xs.length:Int) 0=_ from e]
   simp only [zi,zw,zd]
   refine zas ?_
   rw [List.any_eq_false.2 (fun x hxm=>?_)]
   ·rfl
   ·obtain ⟨i,hi⟩:=List.mem_iff_getElem?.1 hxm
    simpa using hst i x hi
 rw [F186.run,e164,bB]
 refine zas ?_
 rw [Bool.eq_iff_iff]
 simp
end Go.Proofs.YtiacahdabflcdaaGreat.Q
namespace Go.Proofs.YtiacahdabflcdaaGreat.Q
open Go Ovi
variable {k:Nat}
def ia (a:Ovi.Rows) (fs:List Atom):AV:=.agg [.d (.list 3 a),.d (.list 2 (A1 fs))]
def Inst (a:Ovi.Rows) (fs:List Atom) (ib:Bool):Prop:=∀ k,2000000≤k→C (k+8) 40 [ia a fs]=bo ib∧C (k+8) 58 [ia a fs]=bo ib
def DepY (a:Ovi.Rows) (d:Dep):Prop:=DepOk a d.body d.head d.egd d.l d.r∧∀ k,2000000≤k→C (k+12) 81 [.d (.list 3 a),da d]=bo true∧C (k+12) 108 [.d (.list 3 a),da d]=bo true
def zaY (fs:List Atom) (b:List Int) (x:Atom):Bool:=match insG b x.2 with
 | none=>true
 | some vs=>!decide ((x.1,vs)∈fs)
theorem zdA {fs:List Atom} {b:List Int} {x:Atom} (h:insG b x.2=none):zaY fs b x=true:=by unfold zaY;rw [h]
theorem zfR {fs:List Atom} {b:List Int} {x:Atom} {vs:List Int} (h:insG b x.2=some vs):zaY fs b x=!decide ((x.1,vs)∈fs):=by unfold zaY;rw [h]
noncomputable def zbU (body:List Atom) (i:Nat) (v:Int):Bool:=(decide (v=10))==@decide (zZ body (i:Int)) (Classical.propDecidable _)
theorem trig {a:Ovi.Rows} {fs:List Atom} {ib:Bool} {d:Dep} (hi:Inst a fs ib) (hd:DepY a d) (hz:Dsz d) (b:List Int) (hI:∀ v∈b,inI v) (hb:b.length≤1048576) (hf:∀ x∈fs,x.2.length≤1048576) (hfl:fs.length≤1048576) :
  ∃ tb,(tb=true→ib=true∧b.length=5∧(∀ i v,b[i]? = some v→zbU d.body i v=false)∧∀ x∈d.body,zaY fs b x=false) ∧
   ∀ k,2000000≤k→C (k+16) 143 [ia a fs,da d,.d (.list 1 (I1 b))]=bo tb∧C (k+16) 168 [ia a fs,da d,.d (.list 1 (I1 b))]=bo tb:=by
 have hmax:(1048576:Nat)≤maxLen:=by decide
 obtain ⟨hD,hdk⟩:=hd
 have hbody:=hD.bv
 unfold Inst ia at *
 unfold da at *
 cases ib with
 | false =>
  refine ⟨false,fun h=>(by cases h),fun k hk=>?_⟩
  have h:=hi (k+7) (by omega)
  rw [F143.run,F168.run,h.1,h.2,bB,bB,ite'_nf,ite'_nf]
  exact ⟨rfl,rfl⟩
 | true =>
  by_cases h5:b.length=5
  ·have e4:∀ k,2000000≤k→F143.L11 (k+15) (C (k+15)) (k+15) (I1 b) (A1 d.body) (d.body.length:Int) 0 a (A1 fs)=cond (d.body.any (zaY fs b)) (bo false) (bo true):=fun k hk =>
    zbd (xs:=d.body) (L:=fun n i=>F143.L11 (k+15) (C (k+15)) n (I1 b) (A1 d.body) (d.body.length:Int) i a (A1 fs)) (stop:=zaY fs b) (hit:=bo false) (fin:=bo true)
     (fun n i x hx=>by
      have hi:=(List.getElem?_eq_some_iff.1 hx).1
      have hm:=List.mem_of_getElem? hx
      have hl:=zab hm
      have hz1:=hz.1
      rw [F143.L11.succ,ite'_t (lt_t hi),zo,ite'_t (zn hi),zaS hx,zd,zaT hx,zf,c91g (k:=k+12) x b (hbody x hm).2.2 (by omega) h5 (by omega),zz hi (m:=d.body.length) (by omega)]
      cases hins:insG b x.2 with
      | none=>rw [zdA hins];rfl
      | some vs =>
       rw [zfR hins,okO,List.nil_append,znB,ite'_nt,c186 (k:=k+3) fs (x.1,vs) hf hfl (by omega),bB]
       cases decide ((x.1,vs)∈fs)<;>rfl)
     (fun n=>by rw [F143.L11.succ,ite'_f (lt_f (by omega))];rfl) (k+15) (by have:=hD.b2;omega)
   have e10:∀ k,2000000≤k→F168.L10 (k+15) (C (k+15)) (k+15) (I1 b) 0 a (A1 fs) (A1 d.body) (A1 d.head) d.egd d.l d.r=cond (d.body.any (zaY fs b)) (bo false) (bo true):=fun k hk =>
    zbd (xs:=d.body) (L:=fun n i=>F168.L10 (k+15) (C (k+15)) n (I1 b) i a (A1 fs) (A1 d.body) (A1 d.head) d.egd d.l d.r) (stop:=zaY fs b) (hit:=bo false) (fin:=bo true)
     (fun n i x hx=>by
      have hi:=(List.getElem?_eq_some_iff.1 hx).1
      have hm:=List.mem_of_getElem? hx
      have hl:=zab hm
      have hz1:=hz.1
      rw [F168.L10.succ,zo,ite'_t (lt_t hi),ite'_t (zn hi),zaS hx,zd,zaT hx,zf,znp (k:=k+11) x b (hbody x hm).2.2 (by omega) h5 hI (by omega),zz hi (m:=d.body.length) (by omega)]
      cases hins:insG b x.2 with
      | none=>rw [zdA hins];rfl
      | some vs =>
       rw [zfR hins]
       obtain ⟨n1,g1,g2⟩:=c173 (k:=k+11) (a:=a) fs (x.1,vs) hf hfl (by omega)
       rw [okO,List.nil_append,znB,ite'_nt,g1,iB']
       by_cases hmem:(x.1,vs)∈fs
       ·have:=g2.2 hmem
        rw [ite'_f (decide_eq_false (by omega)),decide_eq_true hmem];rfl
       ·have:¬ n1 ≥ 0:=fun h=>hmem (g2.1 h)
        rw [ite'_t (decide_eq_true (by omega)),decide_eq_false hmem];rfl)
     (fun n=>by rw [F168.L10.succ,zo,ite'_f (lt_f (by omega))];rfl) (k+15) (by have:=hD.b2;omega)
   have key:∃ st:Bool,(st=false→∀ i v,b[i]? = some v→zbU d.body i v=false)∧∀ k,2000000≤k→∀ v1 v2,(∀ z,z∈v1↔zZ d.body z)→(∀ z,z∈v2↔zZ d.body z)→v1.length≤1048576→v2.length≤1048576 →
     F143.L5 (k+15) (C (k+15)) (k+15) (I1 b) (I1 b) (b.length:Int) 0 a (A1 fs) (A1 d.body) (A1 d.head) d.egd d.l d.r (I1 v1)=cond st (bo false) (cond (d.body.any (zaY fs b)) (bo false) (bo true)) ∧
     F168.L5 (k+15) (C (k+15)) (k+15) (I1 b) (I1 v2) 0 a (A1 fs) (A1 d.body) (A1 d.head) d.egd d.l d.r=cond st (bo false) (cond (d.body.any (zaY fs b)) (bo false) (bo true)):=by
    have s1:∀ k,2000000≤k→∀ v1,(∀ z,z∈v1↔zZ d.body z)→v1.length≤1048576→∀ (n i:Nat) v,b[i]? = some v→F143.L5 (k+15) (C (k+15)) (n+1) (I1 b) (I1 b) (b.length:Int) (i:Int) a (A1 fs) (A1 d.body) (A1 d.head) d.egd d.l d.r (I1 v1)=cond (zbU d.body i v) (bo false) (F143.L5 (k+15) (C (k+15)) n (I1 b) (I1 b) (b.length:Int) ((i+1:Nat):Int) a (A1 fs) (A1 d.body) (A1 d.head) d.egd d.l d.r (I1 v1)):=by
     intro k hk v1 w1 w2 n i v hv
     have hi:=(List.getElem?_eq_some_iff.1 hv).1
     rw [F143.L5.succ,ite'_t (lt_t hi),zl,ite'_t (zn hi),I1_c hv,zd,c138 (k:=k+13) v1 (i:Int) (by omega) (by omega),bB,zcB w1,zz hi (m:=b.length) (by omega)]
     have e:(!((v != (10:Int))==vB d.body (i:Int)))=zbU d.body i v:=by
      unfold zbU vB
      have h10:(v != (10:Int))=!decide (v=10):=rfl
      rw [h10]
      cases decide (v=10)<;>cases @decide (zZ d.body (i:Int)) (Classical.propDecidable _)<;>rfl
     rw [e];rfl
    have s2:∀ k,2000000≤k→∀ v1,(∀ z,z∈v1↔zZ d.body z)→v1.length≤1048576→∀ (n i:Nat) v,b[i]? = some v→F168.L5 (k+15) (C (k+15)) (n+1) (I1 b) (I1 v1) (i:Int) a (A1 fs) (A1 d.body) (A1 d.head) d.egd d.l d.r=cond (zbU d.body i v) (bo false) (F168.L5 (k+15) (C (k+15)) n (I1 b) (I1 v1) ((i+1:Nat):Int) a (A1 fs) (A1 d.body) (A1 d.head) d.egd d.l d.r):=by
     intro k hk v1 w1 w2 n i v hv
     have hi:=(List.getElem?_eq_some_iff.1 hv).1
     rw [F168.L5.succ,zl,ite'_t (lt_t hi),c156 (k:=k+14) v1 (i:Int) (by omega) (by omega),bB,zcB w1,ite'_t (zn hi),I1_c hv,zd,F205.run,zz hi (m:=b.length) (by omega)]
     simp only [zi,zw,zd]
     have e:(vB d.body (i:Int)==(v==(10:Int)))=zbU d.body i v:=by
      unfold zbU vB
      have:(v==(10:Int))=decide (v=10):=rfl
      rw [this]
      cases decide (v=10)<;>cases @decide (zZ d.body (i:Int)) (Classical.propDecidable _)<;>rfl
     rw [e];rfl
    by_cases hall:∀ (i:Nat) v,b[i]? = some v→zbU d.body i v=false
    ·refine ⟨false,fun _=>hall,fun k hk v1 v2 w1 w2 u1 u2=>⟨?_,?_⟩⟩
     ·rcases zal (L:=fun n i=>F143.L5 (k+15) (C (k+15)) n (I1 b) (I1 b) (b.length:Int) i a (A1 fs) (A1 d.body) (A1 d.head) d.egd d.l d.r (I1 v1)) (stop:=zbU d.body) (hit:=fun _=>bo false) (s1 k hk v1 w1 u1) (fun n=>by rw [F143.L5.succ,ite'_f (lt_f (by omega)),zo,e4 k hk]) (k+15) (by omega) with ⟨i,x,hx,hst,_⟩ | ⟨_,h⟩
      ·rw [hall i x hx] at hst;cases hst
      ·exact h
     ·rcases zal (L:=fun n i=>F168.L5 (k+15) (C (k+15)) n (I1 b) (I1 v2) i a (A1 fs) (A1 d.body) (A1 d.head) d.egd d.l d.r) (stop:=zbU d.body) (hit:=fun _=>bo false) (s2 k hk v2 w2 u2) (fun n=>by rw [F168.L5.succ,zl,ite'_f (lt_f (by omega)),e10 k hk]) (k+15) (by omega) with ⟨i,x,hx,hst,_⟩ | ⟨_,h⟩
      ·rw [hall i x hx] at hst;cases hst
      ·exact h
    ·refine ⟨true,fun h=>(by cases h),fun k hk v1 v2 w1 w2 u1 u2=>⟨?_,?_⟩⟩
     ·rcases zal (L:=fun n i=>F143.L5 (k+15) (C (k+15)) n (I1 b) (I1 b) (b.length:Int) i a (A1 fs) (A1 d.body) (A1 d.head) d.egd d.l d.r (I1 v1)) (stop:=zbU d.body) (hit:=fun _=>bo false) (s1 k hk v1 w1 u1) (fun n=>by rw [F143.L5.succ,ite'_f (lt_f (by omega)),zo,e4 k hk]) (k+15) (by omega) with ⟨i,x,hx,hst,h⟩ | ⟨h,_⟩
      ·exact h
      ·exact absurd h hall
     ·rcases zal (L:=fun n i=>F168.L5 (k+15) (C (k+15)) n (I1 b) (I1 v2) i a (A1 fs) (A1 d.body) (A1 d.head) d.egd d.l d.r) (stop:=zbU d.body) (hit:=fun _=>bo false) (s2 k hk v2 w2 u2) (fun n=>by rw [F168.L5.succ,zl,ite'_f (lt_f (by omega)),e10 k hk]) (k+15) (by omega) with ⟨i,x,hx,hst,h⟩ | ⟨h,_⟩
      ·exact h
      ·exact absurd h hall
   obtain ⟨st,hst,hkey⟩:=key
   refine ⟨cond st false (!(d.body.any (zaY fs b))),fun h=>?_,fun k hk=>?_⟩
   ·cases st with
    | true=>cases h
    | false =>
     simp only [cond_false,Bool.not_eq_true'] at h
     rw [List.any_eq_false] at h
     exact ⟨rfl,h5,hst rfl,fun x hx=>by simpa using h x hx⟩
   ·obtain ⟨v1,w1,w2,w3⟩:=c137 (k:=k+14) d.body (by have:=hz.1;omega) hz.1
    obtain ⟨v2,u1,u2,u3⟩:=c154 (k:=k+13) d.body (by have:=hz.1;omega) hz.1
    have hz1:=hz.1
    obtain ⟨g1,g2⟩:=hkey k hk v1 v2 w2 u2 (by omega) (by omega)
    have h:=hi (k+7) (by omega)
    have h':=hdk (k+3) (by omega)
    rw [F143.run,F168.run,h.1,h.2,bB,bB,ite'_nt,ite'_nt,h'.1,h'.2,bB,bB,ite'_nt,ite'_nt,zl,ite'_f (by simp [h5]),ite'_f (by simp [h5]),w1,u1]
    simp only [zi,zu,zbB,zf]
    rw [g1,g2]
    cases st<;>cases d.body.any (zaY fs b)<;>exact ⟨rfl,rfl⟩
  ·refine ⟨false,fun h=>(by cases h),fun k hk=>?_⟩
   have h:=hi (k+7) (by omega)
   have h':=hdk (k+3) (by omega)
   rw [F143.run,F168.run,h.1,h.2,bB,bB,ite'_nt,ite'_nt,h'.1,h'.2,bB,bB,ite'_nt,ite'_nt,zl,ite'_t (by simp;omega),ite'_t (by simp;omega)]
   exact ⟨rfl,rfl⟩
end Go.Proofs.YtiacahdabflcdaaGreat.Q
namespace Go.Proofs.YtiacahdabflcdaaGreat.Q
open Go Ovi
variable {k:Nat}
structure InstY (a:Ovi.Rows) (fs:List Atom) (ib:Bool):Prop where
 hal:a.length≤1048576
 ok:Inst a fs ib
 f30:ib=true→fs.length≤30∧∀ x∈fs,(0≤x.1∧x.1 < (a.length:Int))∧(x.2.length:Int)=ar a x.1
 fx:∀ x∈fs,x.2.length≤1048576
 fl:fs.length≤1048576
theorem InstY.qok {a:Ovi.Rows} {fs xs:List Atom} {ib:Bool} (h:InstY a fs ib) (hs:zC xs+xs.length≤1048576) (h1:1≤xs.length) (h3:xs.length≤3) (hv:zco a xs (fun _=>true)) (hx:∀ x∈xs,(0≤x.1∧x.1 < (a.length:Int))∧(x.2.length:Int)=ar a x.1∧okT x.2):Qok a fs xs (fun _=>true) ib where
 ha:=h.hal
 hs:=hs
 hv:=hv
 h1:=h1
 h3:=h3
 all:=fun _ _=>rfl
 inst:=h.ok
 mok:=fun hb=>by
  obtain ⟨g1,g2⟩:=h.f30 hb
  refine ⟨g1,h3,fun x hxm=>⟨(hx x hxm).2.2,by have:=zab hxm;omega⟩,fun x hxm f hf hxf=>?_⟩
  have p1:=(hx x hxm).2.1
  have p2:=(g2 f hf).2
  rw [← hxf] at p2
  omega
theorem zoz {a:Ovi.Rows} {fs xs:List Atom} (hq:Qok a fs xs (fun _=>true) true) (b:List Int) (hb:b.length=5):∃ e,∀ k,2000000≤k→C (k+18) 144 [ia a fs,.d (.list 2 (A1 xs)),.d (.list 1 (I1 b))]=bo e∧C (k+18) 169 [ia a fs,.d (.list 2 (A1 xs)),.d (.list 1 (I1 b))]=bo e:=by
 refine ⟨decide ((mats fs xs b).length > 0),fun k hk=>?_⟩
 have h3:=hq.h3
 have hm:=hq.mok rfl
 have e94:C (k+17) 87 [.d (.list 1 (I1 b))]=some [(false,[.row 3 1 (I1 b)])]:=by
  have:C (k+17) 87 [.d (.list 1 (I1 b))]=zbw 3 [.d (.list 1 (I1 b))]:=by kernel_rfl
  rw [this]
  simp only [zbw,za6]
  rw [show Nat.ble b.length 1099511627776=true from Nat.ble_eq_true_of_le (by omega)]
  rfl
 have e155:C (k+17) 183 [.d (.list 2 (A1 fs)),.d (.list 2 (A1 xs)),.d (.list 1 (I1 b))]=some [(false,[.row 27 1 (LL (mats fs xs b))])]:=by
  have:=c183 (fs:=fs) (k:=k+14 - xs.length) (by omega) xs hm b hb
  rw [show k+14 - xs.length+xs.length+3=k+17 by omega] at this
  exact this
 have e112:C (k+17) 203 [.agg [.d (.list 3 a),.d (.list 2 (A1 fs))],.d (.list 2 (A1 xs)),.d (.int .i64 0),.d (.list 1 (I1 b))]=some [(false,[.row 27 1 (LL (mats fs xs b))])]:=by
  have:=c203 (a:=a) hm (k:=k+14 - xs.length) (by omega) xs.length 0 (by omega) b hb
  rw [show k+14 - xs.length+xs.length+3=k+17 by omega] at this
  exact this
 have e154:=c182 (k:=k+2) hq (by omega)
 have e111:=c202 (k:=k+1) hq (by omega)
 have hlen:decide ((((mats fs xs b).length:Nat):Int) > 0)=decide ((mats fs xs b).length > 0):=by
  rw [Bool.eq_iff_iff];simp only [decide_eq_true_eq];omega
 unfold ia
 constructor
 ·rw [F144.run,e154,bB,ite'_t rfl,zl,ite'_t (by simp [hb]),e94]
  simp only [zi,zu,zf]
  rw [e155]
  simp only [zi,zu,zf]
  rw [zx,hlen];rfl
 ·rw [F169.run,e111,bB,ite'_t rfl,zl,ite'_t (by simp [hb]),e112]
  simp only [zi,zu,zf]
  rw [zx,hlen];rfl
theorem actv {a:Ovi.Rows} {fs:List Atom} {ib:Bool} {d:Dep} (hi:InstY a fs ib) (hd:DepY a d) (hz:Dsz d) (b:List Int) (hI:∀ v∈b,inI v) (hb:b.length≤1048576) :
  ∃ vb,(vb=true→ib=true∧b.length=5∧(∀ i v,b[i]? = some v→zbU d.body i v=false)∧(∀ x∈d.body,zaY fs b x=false)∧(d.egd=true→b.getD d.l.toNat 0≠b.getD d.r.toNat 0)) ∧
   ∀ k,2000000≤k→C (k+20) 85 [ia a fs,da d,.d (.list 1 (I1 b))]=bo vb∧C (k+20) 118 [ia a fs,da d,.d (.list 1 (I1 b))]=bo vb:=by
 obtain ⟨tb,htb,ht⟩:=trig hi.ok hd hz b hI hb hi.fx hi.fl
 have hD:=hd.1
 cases tb with
 | false =>
  refine ⟨false,fun h=>(by cases h),fun k hk=>?_⟩
  have h:=ht (k+3) (by omega)
  unfold ia da at *
  rw [F85.run,F118.run,h.1,h.2,bB,bB,ite'_nf,ite'_nf]
  exact ⟨rfl,rfl⟩
 | true =>
  obtain ⟨g1,g2,g3,g4⟩:=htb rfl
  subst g1
  cases he:d.egd with
  | true =>
   obtain ⟨_,hl,hr⟩:=hD.e he
   obtain ⟨l0,l4⟩:=ziA hD.bv hl
   obtain ⟨r0,r4⟩:=ziA hD.bv hr
   obtain ⟨p,hp⟩:∃ p:Nat,d.l=(p:Int):=⟨d.l.toNat,by omega⟩
   obtain ⟨q,hq⟩:∃ q:Nat,d.r=(q:Int):=⟨d.r.toNat,by omega⟩
   have hp5:p < b.length:=by omega
   have hq5:q < b.length:=by omega
   have hbp:b[p]? = some (b.getD p 0):=by rw [List.getD_eq_getElem?_getD,List.getElem?_eq_getElem hp5];rfl
   have hbq:b[q]? = some (b.getD q 0):=by rw [List.getD_eq_getElem?_getD,List.getElem?_eq_getElem hq5];rfl
   refine ⟨b.getD p 0 != b.getD q 0,fun h=>⟨rfl,g2,g3,g4,fun _=>?_⟩,fun k hk=>?_⟩
   ·rw [hp,hq,Int.toNat_natCast,Int.toNat_natCast]
    simpa using h
   ·have h:=ht (k+3) (by omega)
    unfold ia da at *
    rw [he,hp,hq] at h ⊢
    rw [F85.run,F118.run,h.1,h.2,bB,bB,ite'_nt,ite'_nt,ite'_t rfl,ite'_t rfl,zl,ite'_t (zn hp5),I1_c hbp,zd,ite'_t (zn hq5),I1_c hbq,zd]
    exact ⟨rfl,rfl⟩
  | false =>
   obtain ⟨q1,q2⟩:=hD.tV he
   obtain ⟨q3,q4⟩:=hD.t he
   have hq:=hi.qok hz.2 q1 (by omega) q2 q4
   obtain ⟨e,hee⟩:=zoz hq b g2
   refine ⟨!e,fun h=>⟨rfl,g2,g3,g4,fun h=>by cases h⟩,fun k hk=>?_⟩
   have h:=ht (k+3) (by omega)
   have h':=hee (k+1) (by omega)
   unfold ia da at *
   rw [he] at h ⊢
   rw [F85.run,F118.run,h.1,h.2,bB,bB,ite'_nt,ite'_nt,ite'_f rfl,ite'_f rfl,h'.1,h'.2,bB]
   exact ⟨rfl,rfl⟩
end Go.Proofs.YtiacahdabflcdaaGreat.Q
namespace Go.Proofs.YtiacahdabflcdaaGreat.Q
open Go Ovi
variable {k:Nat}
theorem c172 (a:Ovi.Rows) (xs:List Atom) (hI:∀ x∈xs,∀ z∈x.2,inI z) (hk:2000000≤k) (hs:zC xs+xs.length≤1048576):C (k+4) 172 [.agg [.d (.list 3 a),.d (.list 2 (A1 xs))]]=some [(false,[.d (.list 1 (I1 (zah (vals xs))))])]:=by
 have hmax:(1048576:Nat)≤maxLen:=by decide
 rw [F172.run]
 have inner:∀ (ls:List Int) (i:Nat),ls.length≤1048576→i < xs.length→∀ (m j n k3:Nat) (acc:List Int),j+m=ls.length→m < n→SS acc→acc.length+m≤1048576 → 
   ∃ acc',F172.L7 (k+3) (C (k+3)) k3 n (I1 acc) (i:Int) (I1 ls) (j:Int) a (A1 xs)=F172.L3 (k+3) (C (k+3)) k3 (I1 acc') ((i+1:Nat):Int) a (A1 xs)∧SS acc'∧acc'.length≤acc.length+m∧∀ z,z∈acc'↔z∈acc∨z∈ls.drop j:=by
  intro ls i hls hi m
  induction m with
  | zero =>
   intro j n k3 acc hm hn hS hl
   obtain ⟨n,rfl⟩:∃ j,n=j+1:=⟨n - 1,by omega⟩
   refine ⟨acc,?_,hS,by omega,fun z=>by rw [List.drop_eq_nil_of_le (by omega)];simp⟩
   rw [F172.L7.succ,zl,ite'_f (lt_f (by omega)),zz hi (m:=xs.length) (by omega)]
  | succ m ih =>
   intro j n k3 acc hm hn hS hl
   obtain ⟨n,rfl⟩:∃ j,n=j+1:=⟨n - 1,by omega⟩
   have hj:j < ls.length:=by omega
   have hz:=List.getElem?_eq_getElem hj
   obtain ⟨r',ws,e1,e2,e3,e4,e5⟩:=zlt (k:=k+2) acc ls[j] hS (by omega) (by omega)
   rw [F172.L7.succ,zl,ite'_t (lt_t hj),ite'_t (zn hj)]
   simp only [Int.toNat_natCast,zG (I1_get' hz),List.getElem?_cons_zero,Option.bind_some,zy,zd]
   rw [e1]
   simp only [zi]
   rw [e2,zf,zz hj (m:=ls.length) (by omega)]
   obtain ⟨acc',g1,g2,g3,g4⟩:=ih (j+1) n k3 ws (by omega) (by omega) e5 (by omega)
   refine ⟨acc',g1,g2,by omega,fun z=>?_⟩
   rw [g4 z,e3 z,List.drop_eq_getElem_cons hj,List.mem_cons,or_assoc]
 have outer:∀ (m i n:Nat) (acc:List Int),i+m=xs.length→m < n→SS acc→acc.length≤zC (xs.take i)→(∀ z,z∈acc↔z∈zah (vals (xs.take i))) →
   F172.L3 (k+3) (C (k+3)) n (I1 acc) (i:Int) a (A1 xs)=some [(false,[.d (.list 1 (I1 (zah (vals xs))))])]:=by
  intro m
  induction m with
  | zero =>
   intro i n acc hm hn hS ha hmem
   obtain ⟨n,rfl⟩:∃ j,n=j+1:=⟨n - 1,by omega⟩
   obtain rfl:i=xs.length:=by omega
   rw [List.take_length] at hmem
   rw [F172.L3.succ,zo,ite'_f (lt_f (by omega)),zif hS (zkp _) hmem]
  | succ m ih =>
   intro i n acc hm hn hS ha hmem
   obtain ⟨n,rfl⟩:∃ j,n=j+1:=⟨n - 1,by omega⟩
   have hi:i < xs.length:=by omega
   have hx:=List.getElem?_eq_getElem hi
   have hxm:=List.mem_of_getElem? hx
   have hta:=zbp hx
   have htl:=zbq xs (i+1)
   have hnl:=zi7 (xs[i]).2
   rw [F172.L3.succ,zo,ite'_t (lt_t hi),ite'_t (zn hi)]
   simp only [Int.toNat_natCast,zG (zaF hx),zV (zaF hx),List.getElem?_cons_zero,List.getElem?_cons_succ,Option.bind_some,zy,zJ,zd,zf]
   rw [c106 (k:=k) (xs[i]).1 (xs[i]).2 (hI _ hxm) (by omega) (by omega)]
   simp only [zi,zbB,zf]
   obtain ⟨acc',g1,g2,g3,g4⟩:=inner (zah (xs[i]).2) i (by omega) hi (zah (xs[i]).2).length 0 (k+3) n acc (by omega) (by omega) hS (by omega)
   rw [show ((0:Nat):Int)=0 from rfl] at g1
   rw [g1]
   refine ih (i+1) n acc' (by omega) (by omega) g2 (by omega) (fun z=>?_)
   rw [g4 z,List.drop_zero,hmem z,zcl,zcl,zcl,List.take_succ_eq_append_getElem hi]
   unfold vals
   rw [List.flatMap_append]
   simp only [List.mem_append,List.flatMap_cons,List.flatMap_nil,List.append_nil]
   constructor
   ·rintro (⟨v,h1,h2⟩ | ⟨v,h1,h2⟩)
    ·exact ⟨v,.inl h1,h2⟩
    ·exact ⟨v,.inr h1,h2⟩
   ·rintro ⟨v,h1 | h1,h2⟩
    ·exact .inl ⟨v,h1,h2⟩
    ·exact .inr ⟨v,h1,h2⟩
 exact outer xs.length 0 (k+3) [] (by omega) (by omega) (by simp [SS]) (by simp) (fun z=>by simp [zcl,vals])
end Go.Proofs.YtiacahdabflcdaaGreat.Q
namespace Go.Proofs.YtiacahdabflcdaaGreat.Q
open Go Ovi
variable {k:Nat}
theorem zok (a b:List Int):I1 a++I1 b=I1 (a++b):=by simp [I1]
theorem c148 (a:Ovi.Rows) (xs:List Atom) (hI:∀ x∈xs,∀ z∈x.2,inI z) (hk:2000000≤k) (hs:zC xs+xs.length≤1048576):C (k+5) 148 [.agg [.d (.list 3 a),.d (.list 2 (A1 xs))]]=some [(false,[.row 3 1 (I1 (zah (vals xs)))])]:=by
 have hmax:(1048576:Nat)≤maxLen:=by decide
 have hvl:=zhn xs
 rw [F148.run,zo]
 have main:∀ (m i n:Nat),i+m=xs.length→m < n→F148.L3 (k+4) (C (k+4)) n (A1 xs) (xs.length:Int) (i:Int) (I1 (vals (xs.take i)))=some [(false,[.row 3 1 (I1 (zah (vals xs)))])]:=by
  intro m
  induction m with
  | zero =>
   intro i n hm hn
   obtain ⟨n,rfl⟩:∃ j,n=j+1:=⟨n - 1,by omega⟩
   obtain rfl:i=xs.length:=by omega
   rw [F148.L3.succ,ite'_f (lt_f (by omega)),List.take_length,c134 (k:=k+1) (vals xs) (zpb hI) (by omega) (by omega)]
   rfl
  | succ m ih =>
   intro i n hm hn
   obtain ⟨n,rfl⟩:∃ j,n=j+1:=⟨n - 1,by omega⟩
   have hi:i < xs.length:=by omega
   have hg:=List.getElem?_eq_getElem hi
   have:=ih (i+1) n (by omega) (by omega)
   have hv:vals (xs.take (i+1))=vals (xs.take i)++(xs[i]).2:=by
    unfold vals
    rw [List.take_succ_eq_append_getElem hi,List.flatMap_append,List.flatMap_cons,List.flatMap_nil,List.append_nil]
   rw [hv] at this
   have h1:=zhn (xs.take i)
   have h2:=zbp hg
   have h3:=zbq xs (i+1)
   rw [F148.L3.succ,ite'_t (lt_t hi),zo,ite'_t (zn hi),zaS hg,zd,zaT hg,zf,zl,zl,ite'_t (zQ (by omega)),zz hi (m:=xs.length) (by omega),zok]
   exact this
 exact main xs.length 0 (k+4) (by omega) (by omega)
def nx (fs:List Atom):Int:=if zah (vals fs)=[] then 0 else (zah (vals fs)).getD ((zah (vals fs)).length - 1) 0+1
theorem zm8 {zs:List Int} {n:Int} (h:n∈zah zs):0≤n∧n≤39:=by
 obtain ⟨v,_,hv,rfl⟩:=(zcl _ _).1 h
 have:=zgl hv
 omega
theorem znA (fs:List Atom):0≤nx fs∧nx fs≤40:=by
 unfold nx
 by_cases h:zah (vals fs)=[]
 ·rw [if_pos h];omega
 ·rw [if_neg h]
  have hl:0 < (zah (vals fs)).length:=List.length_pos_iff.2 h
  have hm:(zah (vals fs)).getD ((zah (vals fs)).length - 1) 0∈zah (vals fs):=by
   rw [List.getD_eq_getElem?_getD,List.getElem?_eq_getElem (by omega)]
   exact List.getElem_mem _
  have:=zm8 hm
  omega
theorem zko (a:Ovi.Rows) (xs:List Atom) (hI:∀ x∈xs,∀ z∈x.2,inI z) (hk:2000000≤k) (hs:zC xs+xs.length≤1048576):C (k+6) 88 [ia a xs]=io (nx xs)∧C (k+6) 122 [ia a xs]=io (nx xs):=by
 have hl:=zi7 (vals xs)
 have hvl:=zhn xs
 have h1:=c148 a xs hI hk hs
 have h2:=c172 (k:=k+1) a xs hI (by omega) hs
 have h40:=znA xs
 have key:∀ L:List Int,L=zah (vals xs)→ite' (((I1 L).length:Int)==0) (io 0) (ite' (inR (IntKind.i64.wrap (((I1 L).length:Int) - 1)) (I1 L).length) (zg (zm .i64 (I1 L) (IntKind.i64.wrap (((I1 L).length:Int) - 1)).toNat 0) fun n6=>io (IntKind.i64.wrap (n6+1))) none)=io (nx xs):=by
  intro L hL
  rw [zl]
  unfold nx at h40 ⊢
  rw [← hL] at h40 ⊢
  by_cases h:L=[]
  ·rw [if_pos h,ite'_t (by simp [h])]
  ·have hp:0 < L.length:=List.length_pos_iff.2 h
   rw [← hL] at hl
   have hw:IntKind.i64.wrap ((L.length:Int) - 1)=((L.length - 1:Nat):Int):=by rw [zae (by omega) (by omega)];omega
   have hg:L[L.length - 1]? = some (L.getD (L.length - 1) 0):=by rw [List.getD_eq_getElem?_getD,List.getElem?_eq_getElem (show L.length - 1 < L.length by omega)];rfl
   rw [if_neg h] at h40 ⊢
   rw [ite'_f (by simp [h]),hw,ite'_t (zn (show L.length - 1 < L.length by omega)),I1_c hg,zd,zae (by omega) (by omega)]
 unfold ia
 constructor
 ·rw [F88.run,h1]
  simp only [zi,zu,zf]
  exact key _ rfl
 ·rw [F122.run,h2]
  simp only [zi,zbB,zf]
  exact key _ rfl
end Go.Proofs.YtiacahdabflcdaaGreat.Q
namespace Go.Proofs.YtiacahdabflcdaaGreat.Q
open Go Ovi
variable {k:Nat}
theorem znr (xs:List Atom) (hk:zC xs+xs.length < k) (hs:zC xs+xs.length≤1048576):∃ vs,C (k+1) 137 [.d (.list 2 (A1 xs))]=some [(false,[.row 3 1 (I1 vs)])]∧(∀ z,z∈vs↔zZ xs z)∧vs.length≤zC xs∧SS vs:=by
 rw [F137.run,zo]
 have hmax:(1048576:Nat)≤maxLen:=by decide
 have inner:∀ (i:Nat) (x:Atom),xs[i]? = some x→∀ (m j n k3:Nat) (acc:List Int),j+m=x.2.length→m < n→acc.length≤zC (xs.take i)+j→(∀ z,z∈acc↔zZ (xs.take i) z∨(0≤z∧z∈x.2.take j)) →
   ∃ acc',F137.L6 k (C k) k3 n (A1 xs) (xs.length:Int) (i:Int) (I1 x.2) (x.2.length:Int) (j:Int) (I1 acc)=F137.L3 k (C k) k3 (A1 xs) (xs.length:Int) ((i+1:Nat):Int) (I1 acc')∧acc'.length≤zC (xs.take (i+1))∧∀ z,z∈acc'↔zZ (xs.take (i+1)) z:=by
  intro i x hx m
  have hi:=(List.getElem?_eq_some_iff.1 hx).1
  have hta:=zbp hx
  have htl:=zbq xs (i+1)
  induction m with
  | zero =>
   intro j n k3 acc hm hn ha hmem
   obtain ⟨n,rfl⟩:∃ j,n=j+1:=⟨n - 1,by omega⟩
   obtain rfl:j=x.2.length:=by omega
   refine ⟨acc,?_,by omega,fun z=>?_⟩
   ·rw [F137.L6.succ,ite'_f (lt_f (by omega)),zz hi (m:=xs.length) (by omega)]
   ·rw [hmem z,zc6 hx,List.take_length]
  | succ m ih =>
   intro j n k3 acc hm hn ha hmem
   obtain ⟨n,rfl⟩:∃ j,n=j+1:=⟨n - 1,by omega⟩
   have hj:j < x.2.length:=by omega
   have hz:=List.getElem?_eq_getElem hj
   rw [F137.L6.succ,ite'_t (lt_t hj),zl,ite'_t (zn hj)]
   simp only [Int.toNat_natCast,zG (I1_get' hz),List.getElem?_cons_zero,Option.bind_some,zy,zd]
   rw [zz hj (m:=x.2.length) (by omega)]
   have htk:∀ z,z∈x.2.take (j+1)↔z∈x.2.take j∨z=x.2[j]:=by
    intro z
    rw [List.take_succ_eq_append_getElem hj]
    simp only [List.mem_append,List.mem_singleton]
   by_cases h0:0≤x.2[j]
   ·rw [ite'_t (by simpa using h0),ite'_t (zQ (by simp [zl];omega))]
    have e:I1 acc++[[.int .i64 x.2[j]]]=I1 (acc++[x.2[j]]):=by simp [I1]
    rw [e]
    refine ih (j+1) n k3 _ (by omega) (by omega) (by simp;omega) (fun z=>?_)
    rw [List.mem_append,List.mem_singleton,hmem z,htk z]
    constructor
    ·rintro ((h | h) | h)
     ·exact .inl h
     ·exact .inr ⟨h.1,.inl h.2⟩
     ·exact .inr ⟨h▸h0,.inr h⟩
    ·rintro (h | ⟨h1,h | h⟩)
     ·exact .inl (.inl h)
     ·exact .inl (.inr ⟨h1,h⟩)
     ·exact .inr h
   ·rw [ite'_f (by simpa using h0)]
    refine ih (j+1) n k3 _ (by omega) (by omega) (by omega) (fun z=>?_)
    rw [hmem z,htk z]
    constructor
    ·rintro (h | h)
     ·exact .inl h
     ·exact .inr ⟨h.1,.inl h.2⟩
    ·rintro (h | ⟨h1,h | h⟩)
     ·exact .inl h
     ·exact .inr ⟨h1,h⟩
     ·exact absurd (h▸h1) h0
 have outer:∀ (m i n:Nat) (acc:List Int),i+m=xs.length→m < n→acc.length≤zC (xs.take i)→(∀ z,z∈acc↔zZ (xs.take i) z) →
   ∃ vs,F137.L3 k (C k) n (A1 xs) (xs.length:Int) (i:Int) (I1 acc)=some [(false,[.row 3 1 (I1 vs)])]∧(∀ z,z∈vs↔zZ xs z)∧vs.length≤zC xs∧SS vs:=by
  intro m
  induction m with
  | zero =>
   intro i n acc hm hn ha hmem
   obtain ⟨n,rfl⟩:∃ j,n=j+1:=⟨n - 1,by omega⟩
   obtain rfl:i=xs.length:=by omega
   rw [List.take_length] at ha hmem
   obtain ⟨k,rfl⟩:∃ j,k=j+1:=⟨k - 1,by omega⟩
   have e1:C (k+1) 176 [.var 0 0,.d (.int .i64 3),.d (.list 1 (I1 acc))]=some [(false,[.row 3 1 (I1 (zN acc))])]:=by
    show zcA _=_
    unfold zcA zbN
    simp only [za6]
    rw [show Nat.ble acc.length 1099511627776=true from Nat.ble_eq_true_of_le (by omega)]
    rfl
   have hsl:(zN acc).length=acc.length:=by simp [zN]
   have e2:C (k+1) 177 [.var 0 0,.d (.int .i64 3),.d (.list 1 (I1 (zN acc)))]=some [(false,[.row 3 1 (I1 (Lib.compact (zN acc)))]),(true,[])]:=by
    show zba _=_
    unfold zba zbN
    simp only [za6]
    rw [show Nat.ble (zN acc).length 1099511627776=true from Nat.ble_eq_true_of_le (by omega)]
    rfl
   refine ⟨Lib.compact (zN acc),?_,fun z=>?_,?_,zfd _⟩
   ·rw [F137.L3.succ,ite'_f (lt_f (by omega)),e1]
    simp only [zi,zu,zf]
    rw [e2]
    rfl
   ·rw [zcK,zct,hmem z]
   ·have:=zcH (zN acc)
    omega
  | succ m ih =>
   intro i n acc hm hn ha hmem
   obtain ⟨n,rfl⟩:∃ j,n=j+1:=⟨n - 1,by omega⟩
   have hi:i < xs.length:=by omega
   have hx:=List.getElem?_eq_getElem hi
   rw [F137.L3.succ,zo,ite'_t (lt_t hi),ite'_t (zn hi)]
   simp only [Int.toNat_natCast,zG (zaF hx),zV (zaF hx),List.getElem?_cons_zero,List.getElem?_cons_succ,Option.bind_some,zy,zJ,zd,zf]
   have hta:=zbp hx
   have htl:=zbq xs (i+1)
   rw [zl]
   obtain ⟨acc',e,h1,h2⟩:=inner i _ hx (xs[i]).2.length 0 k n acc (by omega) (by omega) (by omega) (fun z=>by simp [hmem z])
   rw [show ((0:Nat):Int)=0 from rfl] at e
   rw [e]
   exact ih (i+1) n acc' (by omega) (by omega) h1 h2
 have:=outer xs.length 0 k [] (by omega) (by omega) (by simp) (fun z=>by simp [zZ])
 exact this
theorem zps (xs:List Atom) (hk:zC xs+xs.length < k) (hs:zC xs+xs.length≤1048576):∃ vs,C (k+2) 154 [.d (.list 2 (A1 xs))]=some [(false,[.d (.list 1 (I1 vs))])]∧(∀ z,z∈vs↔zZ xs z)∧vs.length≤zC xs∧SS vs:=by
 rw [F154.run]
 have hmax:(1048576:Nat)≤maxLen:=by decide
 have inner:∀ (i:Nat) (x:Atom),xs[i]? = some x→∀ (m j n k3:Nat) (acc:List Int),j+m=x.2.length→m < n→acc.length≤zC (xs.take i)+j→(∀ z,z∈acc↔zZ (xs.take i) z∨(0≤z∧z∈x.2.take j))→SS acc →
   ∃ acc',F154.L6 (k+1) (C (k+1)) k3 n (A1 xs) (I1 acc) (i:Int) (j:Int)=F154.L3 (k+1) (C (k+1)) k3 (A1 xs) (I1 acc') ((i+1:Nat):Int)∧acc'.length≤zC (xs.take (i+1))∧(∀ z,z∈acc'↔zZ (xs.take (i+1)) z)∧SS acc':=by
  intro i x hx m
  have hi:=(List.getElem?_eq_some_iff.1 hx).1
  have hta:=zbp hx
  have htl:=zbq xs (i+1)
  have hcell:zq 1 (A1 xs) ((i:Int)).toNat 1=some (I1 x.2):=by rw [Int.toNat_natCast,zV (zaF hx)];rfl
  have hin:inR (i:Int) (A1 xs).length=true:=by rw [zo];exact zn hi
  induction m with
  | zero =>
   intro j n k3 acc hm hn ha hmem hSS
   obtain ⟨n,rfl⟩:∃ j,n=j+1:=⟨n - 1,by omega⟩
   obtain rfl:j=x.2.length:=by omega
   refine ⟨acc,?_,by omega,fun z=>?_,hSS⟩
   ·rw [F154.L6.succ,ite'_t hin,hcell,zf,zl,ite'_f (lt_f (by omega)),zz hi (m:=xs.length) (by omega)]
   ·rw [hmem z,zc6 hx,List.take_length]
  | succ m ih =>
   intro j n k3 acc hm hn ha hmem hSS
   obtain ⟨n,rfl⟩:∃ j,n=j+1:=⟨n - 1,by omega⟩
   have hj:j < x.2.length:=by omega
   have hz:=List.getElem?_eq_getElem hj
   have hcz:zm .i64 (I1 x.2) ((j:Int)).toNat 0=some x.2[j]:=by rw [Int.toNat_natCast,zG (I1_get' hz)];rfl
   have hinj:inR (j:Int) (I1 x.2).length=true:=by rw [zl];exact zn hj
   rw [F154.L6.succ,ite'_t hin,hcell,zf,ite'_t (b:=decide ((j:Int) < ((I1 x.2).length:Int))) (by rw [zl];exact lt_t hj),ite'_t hin]
   simp only [zf]
   rw [ite'_t hinj,hcz]
   simp only [zd]
   rw [zz hj (m:=x.2.length) (by omega)]
   have htk:∀ z,z∈x.2.take (j+1)↔z∈x.2.take j∨z=x.2[j]:=by
    intro z
    rw [List.take_succ_eq_append_getElem hj]
    simp only [List.mem_append,List.mem_singleton]
   by_cases h0:0≤x.2[j]
   ·obtain ⟨r,ws,e1,e2,e3,e4,e5⟩:=zlt (k:=k) acc x.2[j] hSS (by omega) (by omega)
    rw [ite'_t (by simpa using h0),ite'_t hin,ite'_t hinj,e1]
    simp only [zi]
    rw [e2,zf]
    refine ih (j+1) n k3 _ (by omega) (by omega) (by omega) (fun z=>?_) e5
    rw [e3 z,hmem z,htk z]
    constructor
    ·rintro ((h | h) | h)
     ·exact .inl h
     ·exact .inr ⟨h.1,.inl h.2⟩
     ·exact .inr ⟨h▸h0,.inr h⟩
    ·rintro (h | ⟨h1,h | h⟩)
     ·exact .inl (.inl h)
     ·exact .inl (.inr ⟨h1,h⟩)
     ·exact .inr h
   ·rw [ite'_f (by simpa using h0)]
    refine ih (j+1) n k3 _ (by omega) (by omega) (by omega) (fun z=>?_) hSS
    rw [hmem z,htk z]
    constructor
    ·rintro (h | h)
     ·exact .inl h
     ·exact .inr ⟨h.1,.inl h.2⟩
    ·rintro (h | ⟨h1,h | h⟩)
     ·exact .inl h
     ·exact .inr ⟨h1,h⟩
     ·exact absurd (h▸h1) h0
 have outer:∀ (m i n:Nat) (acc:List Int),i+m=xs.length→m < n→acc.length≤zC (xs.take i)→(∀ z,z∈acc↔zZ (xs.take i) z)→SS acc →
   ∃ vs,F154.L3 (k+1) (C (k+1)) n (A1 xs) (I1 acc) (i:Int)=some [(false,[.d (.list 1 (I1 vs))])]∧(∀ z,z∈vs↔zZ xs z)∧vs.length≤zC xs∧SS vs:=by
  intro m
  induction m with
  | zero =>
   intro i n acc hm hn ha hmem hSS
   obtain ⟨n,rfl⟩:∃ j,n=j+1:=⟨n - 1,by omega⟩
   obtain rfl:i=xs.length:=by omega
   rw [List.take_length] at ha hmem
   exact ⟨acc,by rw [F154.L3.succ,zo,ite'_f (lt_f (by omega))],hmem,ha,hSS⟩
  | succ m ih =>
   intro i n acc hm hn ha hmem hSS
   obtain ⟨n,rfl⟩:∃ j,n=j+1:=⟨n - 1,by omega⟩
   have hi:i < xs.length:=by omega
   have hx:=List.getElem?_eq_getElem hi
   have hta:=zbp hx
   have htl:=zbq xs (i+1)
   rw [F154.L3.succ,zo,ite'_t (lt_t hi)]
   obtain ⟨acc',e,h1,h2,h3⟩:=inner i _ hx (xs[i]).2.length 0 (k+1) n acc (by omega) (by omega) (by omega) (fun z=>by simp [hmem z]) hSS
   rw [show ((0:Nat):Int)=0 from rfl] at e
   rw [e]
   exact ih (i+1) n acc' (by omega) (by omega) h1 h2 h3
 have:=outer xs.length 0 (k+1) [] (by omega) (by omega) (by simp) (fun z=>by simp [zZ]) (by simp [SS])
 exact this
theorem zou (d:Dep) (hz:Dsz d):∃ ev:List Int,(∀ z,z∈ev↔zZ d.head z∧¬ zZ d.body z)∧ev.length≤zC d.head∧∀ k,3000000≤k→C (k+3) 89 [da d]=some [(false,[.row 3 1 (I1 ev)])]∧C (k+3) 121 [da d]=some [(false,[.row 3 1 (I1 ev)])]:=by
 have hmax:(1048576:Nat)≤maxLen:=by decide
 obtain ⟨hz1,hz2⟩:=hz
 obtain ⟨vh,_,h2,h3,h4⟩:=znr (k:=3000000) d.head (by omega) hz2
 have hb:∀ z,decide (z∈vh)=vB d.head z:=zcB h2
 refine ⟨vh.filter fun z=>!vB d.body z,fun z=>?_,?_,fun k hk=>?_⟩
 ·rw [List.mem_filter,h2]
  unfold vB
  simp
 ·have:=List.length_filter_le (fun z=>!vB d.body z) vh
  omega
 ·obtain ⟨v1,a1,a2,a3⟩:=c137 (k:=k) d.body (by omega) hz1
  obtain ⟨v2,b1,b2,b3,b4⟩:=znr (k:=k) d.head (by omega) hz2
  obtain ⟨u1,d1,d2,d3⟩:=c154 (k:=k) d.body (by omega) hz1
  obtain ⟨u2,e1,e2,e3,e4⟩:=zps (k:=k) d.head (by omega) hz2
  obtain rfl:v2=vh:=zif b4 h4 fun z=>by rw [b2,h2]
  obtain rfl:u2=v2:=zif e4 b4 fun z=>by rw [e2,b2]
  have L138:∀ (m i n:Nat),i+m=u2.length→m < n→F149.L3 (k+1) (C (k+1)) n false (u2.length:Int) (i:Int) (I1 v1) (I1 ((u2.take i).filter fun z=>!vB d.body z)) (I1 u2)=some [(false,[.row 3 1 (I1 (u2.filter fun z=>!vB d.body z))])]:=by
   intro m
   induction m with
   | zero =>
    intro i n hm hn
    obtain ⟨n,rfl⟩:∃ j,n=j+1:=⟨n - 1,by omega⟩
    obtain rfl:i=u2.length:=by omega
    rw [F149.L3.succ,ite'_f (lt_f (by omega)),List.take_length]
   | succ m ih =>
    intro i n hm hn
    obtain ⟨n,rfl⟩:∃ j,n=j+1:=⟨n - 1,by omega⟩
    have hi:i < u2.length:=by omega
    have hg:=List.getElem?_eq_getElem hi
    have hft:=List.length_filter_le (fun z=>!vB d.body z) (u2.take i)
    rw [List.length_take] at hft
    have:=ih (i+1) n (by omega) (by omega)
    rw [List.take_succ_eq_append_getElem hi,List.filter_append] at this
    obtain ⟨j,rfl⟩:∃ j,k=j+1:=⟨k - 1,by omega⟩
    rw [F149.L3.succ,ite'_t (lt_t hi),zl,ite'_t (zn hi),I1_c hg,zd,c138 (k:=j) v1 u2[i] (by omega) (by omega),bB,zcB a2,zz hi (m:=u2.length) (by omega)]
    cases hv:vB d.body u2[i] with
    | true =>
     rw [show (true==false)=false from rfl,ite'_f rfl]
     simpa [hv] using this
    | false =>
     rw [show (false==false)=true from rfl,ite'_t rfl,zl,ite'_t (zQ (by simp only [List.length_cons,List.length_nil];omega)),zbO]
     simpa [hv] using this
  have L74:∀ (m i n:Nat),i+m=u2.length→m < n→F121.L5 (k+2) (C (k+2)) n (I1 u1) (I1 u2) (i:Int) (I1 ((u2.take i).filter fun z=>!vB d.body z))=some [(false,[.row 3 1 (I1 (u2.filter fun z=>!vB d.body z))])]:=by
   intro m
   induction m with
   | zero =>
    intro i n hm hn
    obtain ⟨n,rfl⟩:∃ j,n=j+1:=⟨n - 1,by omega⟩
    obtain rfl:i=u2.length:=by omega
    rw [F121.L5.succ,zl,ite'_f (lt_f (by omega)),List.take_length]
   | succ m ih =>
    intro i n hm hn
    obtain ⟨n,rfl⟩:∃ j,n=j+1:=⟨n - 1,by omega⟩
    have hi:i < u2.length:=by omega
    have hg:=List.getElem?_eq_getElem hi
    have hft:=List.length_filter_le (fun z=>!vB d.body z) (u2.take i)
    rw [List.length_take] at hft
    have:=ih (i+1) n (by omega) (by omega)
    rw [List.take_succ_eq_append_getElem hi,List.filter_append] at this
    rw [F121.L5.succ,zl,ite'_t (lt_t hi),ite'_t (zn hi),I1_c hg,zd,c156 (k:=k+1) u1 u2[i] (by omega) (by omega),bB,zcB d2,zz hi (m:=u2.length) (by omega)]
    cases hv:vB d.body u2[i] with
    | true =>
     rw [ite'_nt]
     simpa [hv] using this
    | false =>
     rw [ite'_nf,ite'_t (zn hi),zd,zl,ite'_t (zQ (by simp only [List.length_cons,List.length_nil];omega)),zbO]
     simpa [hv] using this
  unfold da
  constructor
  ·rw [F89.run,F149.run,a1,b1]
   simp only [zi,zu,zf]
   rw [zl,show F149.L3 (k+1) (C (k+1)) (k+1) false (u2.length:Int) 0 (I1 v1) [] (I1 u2)=_ from L138 u2.length 0 (k+1) (by omega) (by omega)]
   simp only [zi,zu,zf]
  ·rw [F121.run,d1]
   simp only [zi,zbB,zf]
   rw [e1]
   simp only [zi,zbB,zf]
   exact L74 u2.length 0 (k+2) (by omega) (by omega)
end Go.Proofs.YtiacahdabflcdaaGreat.Q
namespace Go.Proofs.YtiacahdabflcdaaGreat.Q
open Go Ovi
variable {k:Nat}
def s1 (n:Int):Ovi.Rows:=[[.int .i64 n]]
theorem ze6 (n:Int):zm .i64 (s1 n) 0 0=some n:=rfl
def zbs (n w:Int):Bool:=decide ((0:Int)≤n∧n≤39)&&okV w
theorem zns (n w:Int) (hw:inI w) (hk:100≤k):C (k+5) 170 [.agg [.d (.list 1 (s1 n)),.d (.list 1 (s1 w))]]=bo (zbs n w):=by
 obtain ⟨j,rfl⟩:∃ j,k=j+2:=⟨k - 2,by omega⟩
 have e0:F170.L4 (j+2+4) (C (j+2+4)) (j+2+3+1) 0 (s1 n) (s1 w)=bo (zbs n w):=by
  have h1:F170.L4 (j+2+4) (C (j+2+4)) (j+2+2+1) 1 (s1 n) (s1 w)=bo true:=by rw [F170.L4.succ];rfl
  rw [F170.L4.succ,show decide ((0:Int) < ((s1 n).length:Int))=true from rfl,ite'_t rfl,show inR (0:Int) (s1 n).length=true from rfl,ite'_t rfl,show ((0:Int)).toNat=0 from rfl,ze6,zd,c157,bB]
  unfold zbs
  cases decide ((0:Int)≤n∧n≤39) with
  | false=>rfl
  | true =>
   rw [ite'_nt,show decide ((0:Int) > 0)=false from rfl,ite'_f rfl,show inR (0:Int) (s1 w).length=true from rfl,ite'_t rfl,ze6,zd,c159 (k:=j+2+1) hw,bB]
   cases okV w with
   | false=>rfl
   | true=>rw [ite'_nt];exact h1
 rw [F170.run,show (((s1 n).length:Int) != ((s1 w).length:Int))=false from rfl,ite'_f rfl]
 exact e0
theorem znt (n w:Int) (hk:100≤k):C (k+5) 187 [.agg [.d (.list 1 (s1 n)),.d (.list 1 (s1 w))]]=bo (zbs n w):=by
 obtain ⟨j,rfl⟩:∃ j,k=j+2:=⟨k - 2,by omega⟩
 have e0:F187.L4 (j+2+4) (C (j+2+4)) (j+2+3+1) (s1 n) 1 0 (s1 n) (s1 w)=bo (zbs n w):=by
  have h1:F187.L4 (j+2+4) (C (j+2+4)) (j+2+2+1) (s1 n) 1 1 (s1 n) (s1 w)=bo true:=by rw [F187.L4.succ];rfl
  rw [F187.L4.succ,show decide ((0:Int) < 1)=true from rfl,ite'_t rfl,show inR (0:Int) (s1 n).length=true from rfl,ite'_t rfl,show ((0:Int)).toNat=0 from rfl,ze6,zd,c128,bB]
  unfold zbs
  cases decide ((0:Int)≤n∧n≤39) with
  | false=>rfl
  | true =>
   rw [ite'_nt,show decide ((0:Int) > 0)=false from rfl,ite'_f rfl,show inR (0:Int) (s1 w).length=true from rfl,ite'_t rfl,ze6,zd,c131 (k:=j+2+2) w,bB]
   cases okV w with
   | false=>rfl
   | true=>rw [ite'_nt];exact h1
 rw [F187.run,show (((s1 n).length:Int) != ((s1 w).length:Int))=false from rfl,ite'_f rfl]
 exact e0
end Go.Proofs.YtiacahdabflcdaaGreat.Q
namespace Go.Proofs.YtiacahdabflcdaaGreat.Q
open Go Ovi
variable {k:Nat}
def sv (n w v:Int):Int:=if v=neg n then w else v
theorem zpw (n w v:Int) (hn:zbs n w=true) (hw:inI w) (hk:100≤k):C (k+7) 206 [.agg [.d (.list 1 (s1 n)),.d (.list 1 (s1 w))],.d (.int .i64 v)]=io (sv n w v):=by
 have hn1:(0:Int)≤n∧n≤39:=by
  unfold zbs at hn
  rw [Bool.and_eq_true,decide_eq_true_eq] at hn
  exact hn.1
 have hneg:IntKind.i64.wrap (-1 - n)=neg n:=zae (by omega) (by omega)
 have h1:F206.L2 (k+6) (C (k+6)) (k+4+1) v 1 (s1 n) (s1 w)=io v:=by rw [F206.L2.succ];rfl
 have e0:F206.L2 (k+6) (C (k+6)) (k+5+1) v 0 (s1 n) (s1 w)=io (sv n w v):=by
  rw [F206.L2.succ,show decide ((0:Int) < ((s1 n).length:Int))=true from rfl,ite'_t rfl,zns (k:=k+1) n w hw (by omega),bB,hn,ite'_t rfl,show inR (0:Int) (s1 n).length=true from rfl,ite'_t rfl,show ((0:Int)).toNat=0 from rfl,ze6,zd,F123.run,hneg]
  simp only [zi,zw,zd]
  unfold sv
  by_cases h:v=neg n
  ·subst h
   rw [if_pos rfl,ite'_t (by simp),show inR (0:Int) (s1 w).length=true from rfl,ite'_t rfl,ze6,zd];rfl
  ·rw [if_neg h,ite'_f (by simpa using fun e=>h e.symm)];exact h1
 rw [F206.run]
 exact e0
theorem zpu (n q:Int) (hk:100≤k):C (k+1) 180 [.d (.list 1 (s1 n)),.d (.int .i64 q)]=io (if q=n then 0 else -1):=by
 obtain ⟨j,rfl⟩:∃ j,k=j+2:=⟨k - 2,by omega⟩
 have h1:F180.L2 (j+2) (C (j+2)) (j+1) (s1 n) q 1 1=io (-1):=by rw [F180.L2.succ];rfl
 have e0:F180.L2 (j+2) (C (j+2)) (j+1+1) (s1 n) q 1 0=io (if q=n then 0 else -1):=by
  rw [F180.L2.succ,show decide ((0:Int) < 1)=true from rfl,ite'_t rfl,show inR (0:Int) (s1 n).length=true from rfl,ite'_t rfl,show ((0:Int)).toNat=0 from rfl,ze6,zd]
  by_cases h:q=n
  ·rw [if_pos h,ite'_t (by simpa using h)];rfl
  ·rw [if_neg h,ite'_f (by simpa using h)];exact h1
 rw [F180.run]
 exact e0
theorem zpx (n w v:Int) (hn:zbs n w=true) (hv:inI v) (hk:100≤k):C (k+7) 215 [.agg [.d (.list 1 (s1 n)),.d (.list 1 (s1 w))],.d (.int .i64 v)]=io (sv n w v):=by
 have hn1:(0:Int)≤n∧n≤39:=by
  unfold zbs at hn
  rw [Bool.and_eq_true,decide_eq_true_eq] at hn
  exact hn.1
 rw [F215.run,c146 (k:=k+4) hv,nnB,zpu (k:=k+5) n _ (by omega),iB',znt (k:=k+1) n w (by omega),bB,hn]
 unfold sv
 cases hN:isN v with
 | false =>
  have:=zjA hN
  rw [if_neg (show ¬ v=neg n by unfold neg;omega)];rfl
 | true =>
  rw [ite'_nt,if_pos rfl]
  by_cases h:v=neg n
  ·have : -1 - v=n:=by unfold neg at h;omega
   rw [if_pos h,if_pos this];rfl
  ·have:¬ -1 - v=n:=fun e=>h (by unfold neg;omega)
   rw [if_neg h,if_neg this];rfl
end Go.Proofs.YtiacahdabflcdaaGreat.Q
namespace Go.Proofs.YtiacahdabflcdaaGreat.Q
open Go Ovi
variable {k:Nat}
def subF (n w:Int) (x:Atom):Atom:=(x.1,x.2.map (sv n w))
theorem zpt (n w:Int) (hn:zbs n w=true) (hw:inI w) (x:Atom) (hz:x.2.length≤1048576) (hk:2000000≤k):C (k+9) 171 [.agg [.d (.list 1 (s1 n)),.d (.list 1 (s1 w))],.agg [.d (.int .i64 x.1),.d (.list 1 (I1 x.2))]]=some [(true,[.d (.int .i64 x.1),.row 3 1 (I1 (subF n w x).2)])]:=by
 have hmax:(1048576:Nat)≤maxLen:=by decide
 have main:∀ (m i j:Nat),i+m=x.2.length→m < j→F171.L3 (k+8) (C (k+8)) j (i:Int) (s1 n) (s1 w) x.1 (I1 x.2) 0 [] x.1 (I1 ((x.2.take i).map (sv n w)))=some [(true,[.d (.int .i64 x.1),.row 3 1 (I1 (subF n w x).2)])]:=by
  intro m
  induction m with
  | zero =>
   intro i j hm hj
   obtain ⟨j,rfl⟩:∃ q,j=q+1:=⟨j - 1,by omega⟩
   obtain rfl:i=x.2.length:=by omega
   rw [F171.L3.succ,zl,ite'_f (lt_f (by omega)),List.take_length]
   rfl
  | succ m ih =>
   intro i j hm hj
   obtain ⟨j,rfl⟩:∃ q,j=q+1:=⟨j - 1,by omega⟩
   have hi:i < x.2.length:=by omega
   have hg:=List.getElem?_eq_getElem hi
   have:=ih (i+1) j (by omega) (by omega)
   rw [List.take_succ_eq_append_getElem hi,List.map_append,List.map_singleton] at this
   rw [F171.L3.succ,zl,ite'_t (lt_t hi),ite'_t (zn hi),I1_c hg,zd,zpw (k:=k+1) n w x.2[i] hn hw (by omega),iB',ite'_t (zQ (by rw [zl,List.length_map,List.length_take];simp only [List.length_cons,List.length_nil];omega)),zz hi (m:=x.2.length) (by omega),zbO]
   exact this
 rw [F171.run]
 exact main x.2.length 0 (k+8) (by omega) (by omega)
theorem zpv (n w:Int) (hn:zbs n w=true) (x:Atom) (hI:∀ v∈x.2,inI v) (hz:x.2.length≤1048576) (hk:2000000≤k):C (k+9) 188 [.agg [.d (.list 1 (s1 n)),.d (.list 1 (s1 w))],.agg [.d (.int .i64 x.1),.d (.list 1 (I1 x.2))]]=some [(true,[.d (.int .i64 x.1),.row 3 1 (I1 (subF n w x).2)])]:=by
 have hmax:(1048576:Nat)≤maxLen:=by decide
 have main:∀ (m i j:Nat) (cur:List Int),i+m=x.2.length→m < j→cur=(x.2.take i).map (sv n w)++x.2.drop i→F188.L3 (k+8) (C (k+8)) j (I1 x.2) (x.2.length:Int) (i:Int) (s1 n) (s1 w) 0 [] x.1 (I1 cur)=some [(true,[.d (.int .i64 x.1),.row 3 1 (I1 (subF n w x).2)])]:=by
  intro m
  induction m with
  | zero =>
   intro i j cur hm hj hc
   obtain ⟨j,rfl⟩:∃ q,j=q+1:=⟨j - 1,by omega⟩
   obtain rfl:i=x.2.length:=by omega
   rw [List.take_length,List.drop_length,List.append_nil] at hc
   subst hc
   rw [F188.L3.succ,ite'_f (lt_f (by omega))]
   rfl
  | succ m ih =>
   intro i j cur hm hj hc
   obtain ⟨j,rfl⟩:∃ q,j=q+1:=⟨j - 1,by omega⟩
   have hi:i < x.2.length:=by omega
   have hg:=List.getElem?_eq_getElem hi
   have hcl:cur.length=x.2.length:=by rw [hc];simp;omega
   rw [F188.L3.succ,ite'_t (lt_t hi),zl,ite'_t (zn hi),I1_c hg,zd,zpx (k:=k+1) n w x.2[i] hn (hI _ (List.getElem_mem hi)) (by omega),iB',zl,ite'_t (zn (show i < cur.length by omega)),zz hi (m:=x.2.length) (by omega),Int.toNat_natCast,zcy _ (show i < cur.length by omega)]
   refine ih (i+1) j _ (by omega) (by omega) ?_
   rw [hc,List.take_succ_eq_append_getElem hi,List.map_append,List.map_singleton,List.drop_eq_getElem_cons hi,List.append_assoc,List.singleton_append]
   have hz0:i - ((x.2.take i).map (sv n w)).length=0:=by rw [List.length_map,List.length_take];omega
   rw [List.set_append_right _ _ (by rw [List.length_map,List.length_take];omega),hz0,List.set_cons_zero]
 rw [F188.run,c141 (k:=k+6) x hz]
 show F188.L3 (k+8) (C (k+8)) (k+8) (I1 x.2) ((I1 x.2).length:Int) 0 (s1 n) (s1 w) 0 [] x.1 (I1 x.2)=_
 rw [zl]
 exact main x.2.length 0 (k+8) x.2 (by omega) (by omega) (by simp)
end Go.Proofs.YtiacahdabflcdaaGreat.Q
namespace Go.Proofs.YtiacahdabflcdaaGreat.Q
open Go Ovi
variable {k:Nat}
theorem zlR {M:List Atom} {i:Nat} (z:Atom) (h:i < M.length):rowsSet (A1 M) i 0 [.int .i64 z.1,.list 1 (I1 z.2)]=A1 (M.set i z):=by
 have:(A1 M).getD i []=[.int .i64 (M[i]).1,.list 1 (I1 (M[i]).2)]:=by simp [A1,List.getD,h]
 unfold rowsSet
 rw [this]
 simp [A1,List.map_set]
def subI (n w:Int) (fs:List Atom):List Atom:=can (fs.map (subF n w))
theorem zii {n w:Int} {fs:List Atom} (hf:∀ x∈fs,x.2.length≤1048576):∀ z∈fs.map (subF n w),z.2.length≤1048576:=by
 intro z hz
 obtain ⟨x,hx,rfl⟩:=List.mem_map.1 hz
 have:=hf x hx
 simpa [subF] using this
theorem R54 {r:Res} {a b:Ovi.Rows} {f:Ovi.Rows→Ovi.Rows→Option Res} (h1:resL 3 1 true 2 r 0 0=some a) (h2:resL 2 1 true 2 r 0 1=some b):(za (some r) fun r20=>zc (resL 3 1 true 2 r20 0 0) fun l33=>zc (resL 2 1 true 2 r20 0 1) fun l55=>f l33 l55)=f a b:=by
 rw [zi,h1,zf,h2,zf]
theorem aF {r:Int} {vs:Ovi.Rows} {f:Int→Ovi.Rows→Option Res}:(za (some [(true,[.d (.int .i64 r),.row 3 1 vs])]) fun r16=>zg (resI .i64 1 true 2 r16 0 0) fun n17=>zc (resO 3 1 1 true 2 r16 0 1) fun l53=>f n17 l53)=f r vs:=rfl
theorem aI {a b:Ovi.Rows} {f:Ovi.Rows→Ovi.Rows→Option Res}:(za (some [(true,[.row 112 3 a,.frow 114 2 1 b])]) fun r16=>zc (resO 112 3 1 true 2 r16 0 0) fun l35=>zc (resF 114 2 1 1 true 2 r16 0 1) fun l53=>f l35 l53)=f a b:=rfl
theorem zpr {a:Ovi.Rows} {fs:List Atom} (n w:Int) (hn:zbs n w=true) (hi:Inst a fs true) (ha2:a.length≤1048576) (hf:∀ x∈fs,x.2.length≤1048576) (hI:∀ x∈fs,∀ v∈x.2,inI v) (hl:fs.length≤1048576) (hk:2000000≤k) :
  C (k+11) 147 [.agg [.d (.list 1 (s1 n)),.d (.list 1 (s1 w))],ia a fs]=some [(true,[.row 112 3 a,.frow 114 2 1 (A1 (subI n w fs))]),(false,[.d (.bool true)])]:=by
 have hmax:(1048576:Nat)≤maxLen:=by decide
 have main:∀ (m i j:Nat) (cur:List Atom),i+m=fs.length→m < j→cur=(fs.take i).map (subF n w)++fs.drop i→F147.L5 (k+10) (C (k+10)) j (A1 fs) (fs.length:Int) (i:Int) (s1 n) (s1 w) [] [] a (A1 cur)=some [(true,[.row 112 3 a,.frow 114 2 1 (A1 (subI n w fs))]),(false,[.d (.bool true)])]:=by
  intro m
  induction m with
  | zero =>
   intro i j cur hm hj hc
   obtain ⟨j,rfl⟩:∃ q,j=q+1:=⟨j - 1,by omega⟩
   obtain rfl:i=fs.length:=by omega
   rw [List.take_length,List.drop_length,List.append_nil] at hc
   subst hc
   rw [F147.L5.succ,ite'_f (lt_f (by omega)),c92 (k:=k+6) (fs.map (subF n w)) (zii hf) (by rw [List.length_map];omega) (by omega)]
   rfl
  | succ m ih =>
   intro i j cur hm hj hc
   obtain ⟨j,rfl⟩:∃ q,j=q+1:=⟨j - 1,by omega⟩
   have hi:i < fs.length:=by omega
   have hg:=List.getElem?_eq_getElem hi
   have hgm:=List.getElem_mem hi
   have hcl:cur.length=fs.length:=by rw [hc];simp;omega
   rw [F147.L5.succ,ite'_t (lt_t hi),zo,ite'_t (zn hi),zaS hg,zd,zaT hg,zf,zpv (k:=k+1) n w hn fs[i] (hI _ hgm) (hf _ hgm) (by omega),aF,zo,ite'_t (zn (show i < cur.length by omega)),zz hi (m:=fs.length) (by omega),Int.toNat_natCast]
   have e:=zlR (M:=cur) (i:=i) (subF n w fs[i]) (by omega)
   rw [show (fs[i]).1=(subF n w fs[i]).1 from rfl,e]
   refine ih (i+1) j _ (by omega) (by omega) ?_
   have hz0:i - ((fs.take i).map (subF n w)).length=0:=by rw [List.length_map,List.length_take];omega
   rw [hc,List.take_succ_eq_append_getElem hi,List.map_append,List.map_singleton,List.drop_eq_getElem_cons hi,List.append_assoc,List.singleton_append]
   rw [List.set_append_right _ _ (by rw [List.length_map,List.length_take];omega),hz0,List.set_cons_zero]
 have h50:=(hi (k+2) (by omega)).1
 unfold ia at *
 rw [F147.run,znt (k:=k+5) n w (by omega),bB,hn,ite'_nt,h50,bB,ite'_nt,c42 (k:=k+6) ha2 fs hf hl (by omega),aI,zo]
 exact main fs.length 0 (k+10) fs (by omega) (by omega) (by simp)
end Go.Proofs.YtiacahdabflcdaaGreat.Q
namespace Go.Proofs.YtiacahdabflcdaaGreat.Q
open Go Ovi
variable {k:Nat}
theorem zpq {a:Ovi.Rows} {fs:List Atom} (n w:Int) (hn:zbs n w=true) (hw:inI w) (hi:Inst a fs true) (ha2:a.length≤1048576) (hf:∀ x∈fs,x.2.length≤1048576) (hl:fs.length≤1000000) (hk:2000000≤k) :
  C (k+11) 120 [.agg [.d (.list 1 (s1 n)),.d (.list 1 (s1 w))],ia a fs]=some [(true,[.row 112 3 a,.frow 114 2 1 (A1 (subI n w fs))]),(false,[.d (.bool true)])]:=by
 have hmax:(1048576:Nat)≤maxLen:=by decide
 have hcl:(subI n w fs).length≤fs.length:=by
  have:=zkX (fs.map (subF n w))
  rw [List.length_map] at this
  exact this
 have main:∀ (m i j:Nat) (gs:List Atom),i+m=fs.length→m < j→SSA gs→(∀ z,z∈gs↔z∈(fs.take i).map (subF n w))→gs.length≤i→F120.L5 (k+10) (C (k+10)) j (i:Int) (s1 n) (s1 w) a (A1 fs) [] [] a (A1 gs)=some [(true,[.row 112 3 a,.frow 114 2 1 (A1 (subI n w fs))]),(false,[.d (.bool true)])]:=by
  intro m
  induction m with
  | zero =>
   intro i j gs hm hj hS hmem hgl
   obtain ⟨j,rfl⟩:∃ q,j=q+1:=⟨j - 1,by omega⟩
   obtain rfl:i=fs.length:=by omega
   have e:gs=subI n w fs:=by
    refine zkF hS (zd6 _) fun z=>?_
    rw [hmem z,List.take_length]
    exact (zbQ _ _).symm
   subst e
   rw [F120.L5.succ,zo,ite'_f (lt_f (by omega)),c68 (k:=k+7) ha2 (subI n w fs) (fun z hz=>zii hf z ((zbQ _ _).1 hz)) (by omega) (by omega),aI]
  | succ m ih =>
   intro i j gs hm hj hS hmem hgl
   obtain ⟨j,rfl⟩:∃ q,j=q+1:=⟨j - 1,by omega⟩
   have hi:i < fs.length:=by omega
   have hg:=List.getElem?_eq_getElem hi
   have hgm:=List.getElem_mem hi
   have hgx:∀ x∈gs,x.2.length≤1048576:=by
    intro z hz
    obtain ⟨x,hx',rfl⟩:=List.mem_map.1 ((hmem z).1 hz)
    have:=hf x (List.mem_of_mem_take hx')
    simpa [subF] using this
   obtain ⟨r,ws,e1,e2,e3,e4,e5,e6⟩:=c125 (k:=k+5) (a:=a) gs (subF n w fs[i]) hS hgx (by have:=hf _ hgm;simpa [subF] using this) (by omega) (by omega)
   rw [F120.L5.succ,zo,ite'_t (lt_t hi),ite'_t (zn hi),zaS hg,zd,zaT hg,zf,zpt (k:=k+1) n w hn hw fs[i] (hf _ hgm) (by omega),aF]
   rw [show (C (k+10) 125 [.agg [.d (.list 3 a),.d (.list 2 (A1 gs))],.agg [.d (.int .i64 (fs[i]).1),.d (.list 1 (I1 (subF n w fs[i]).2))]])=some r from e1,R54 e2 e3,zz hi (m:=fs.length) (by omega)]
   refine ih (i+1) j ws (by omega) (by omega) e4 (fun z=>?_) (by omega)
   rw [e5,hmem,List.take_succ_eq_append_getElem hi,List.map_append,List.mem_append,List.map_singleton,List.mem_singleton]
 have h37:=(hi (k+2) (by omega)).2
 unfold ia at *
 rw [F120.run,zns (k:=k+5) n w hw (by omega),bB,hn,ite'_nt,h37,bB,ite'_nt,ite'_t (zQ (by omega))]
 exact main fs.length 0 (k+10) [] (by omega) (by omega) (by simp [SSA]) (by simp) (Nat.zero_le _)
end Go.Proofs.YtiacahdabflcdaaGreat.Q
namespace Go.Proofs.YtiacahdabflcdaaGreat.Q
open Go Ovi
variable {k:Nat}
structure Gd (a:Ovi.Rows) (fs:List Atom):Prop where
 fit:Fit Rl (.list 3 a)
 hal:a.length≤1048576
 hI:∀ x∈fs,∀ z∈x.2,inI z
 hs:zC fs+fs.length≤1048576
 hR:∀ x∈fs,inI x.1
structure Vl (a:Ovi.Rows) (fs:List Atom):Prop where
 ss:SSA fs
 l3:∀ x∈fs,x.2.length≤3
 n30:fs.length≤30
 rel:∀ x∈fs,0≤x.1∧x.1 < (a.length:Int)
 ar3:∀ r:Int,0≤r→r < (a.length:Int)→ar a r≤3
theorem zjk:∀ {l:List Atom},(∀ (i:Nat) x y,l[i]? = some x→l[i+1]? = some y→ltA x y=true)→SSA l
 | [],_=>by simp [SSA]
 | [x],_=>by simp [SSA]
 | x::y::l,h=>by
  have h1:=zjk (l:=y::l) (fun i a b ha hb=>h (i+1) a b ha hb)
  have h0:=h 0 x y rfl rfl
  refine List.pairwise_cons.2 ⟨fun z hz=>?_,h1⟩
  rcases List.mem_cons.1 hz with rfl | hz
  ·exact h0
  ·exact swoA.trans _ _ _ h0 ((List.pairwise_cons.1 h1).1 z hz)
theorem zjm {fs:List Atom} (h:∀ x∈fs,x.2.length≤3):zC fs≤3 * fs.length:=by
 induction fs with
 | nil=>simp [zC]
 | cons x l ih =>
  have h1:=ih (fun y hy=>h y (List.mem_cons_of_mem _ hy))
  have h2:=h x List.mem_cons_self
  simp only [zC,List.map_cons,List.sum_cons,List.length_cons] at *
  omega
theorem Gd.inst {a:Ovi.Rows} {fs:List Atom} (h:Gd a fs):∃ ib,InstY a fs ib∧(ib=true→Vl a fs):=by
 have hs:=h.hs
 obtain ⟨ib,h1,h2⟩:=zml h.fit fs h.hI (by omega) h.hal
 refine ⟨ib,⟨h.hal,h2,fun hb=>(h1 hb).1,fun x hx=>by have:=zab hx;omega,by omega⟩,fun hb=>?_⟩
 obtain ⟨⟨g1,g2⟩,g3,g4,g5⟩:=h1 hb
 exact ⟨zjk fun i x y hx hy=>by unfold ltA;rw [← zj1,decide_eq_true_eq];exact g4 i x y hx hy,g3,g1,fun x hx=>(g2 x hx).1,g5⟩
theorem Gd.fx {a:Ovi.Rows} {fs:List Atom} (h:Gd a fs):∀ x∈fs,x.2.length≤1048576:=fun x hx=>by
 have:=zab hx
 have:=h.hs
 omega
theorem Gd.of3 {a:Ovi.Rows} {fs gs:List Atom} (h:Gd a fs) (hR:∀ x∈gs,inI x.1) (hI:∀ x∈gs,∀ z∈x.2,inI z) (h3:∀ x∈gs,x.2.length≤3) (hn:gs.length≤30):Gd a gs :=
 ⟨h.fit,h.hal,hI,by have:=zjm h3;omega,hR⟩
end Go.Proofs.YtiacahdabflcdaaGreat.Q
namespace Go.Proofs.YtiacahdabflcdaaGreat.Q
open Go Ovi
variable {k:Nat}
def hd (b:List Int) (x:Atom):Atom:=match insG b x.2 with
 | some vs=>(x.1,vs)
 | none=>(0,[])
def setE (b:List Int):List Int→Int→List Int
 | [],_=>b
 | z::zs,n=>setE (b.set z.toNat (neg n)) zs (n+1)
theorem zha {b:List Int}:∀ {ts vs:List Int},insG b ts=some vs→(∀ t∈ts,okV (val b t)=true)∧vs=ts.map (val b)
 | [],vs,h=>by cases h;exact ⟨by simp,rfl⟩
 | t::ts,vs,h=>by
  rw [insG] at h
  by_cases hok:okV (val b t)=true
  ·rw [if_pos hok] at h
   obtain ⟨ws,hw,rfl⟩:=Option.map_eq_some_iff.1 h
   obtain ⟨h1,h2⟩:=zha hw
   refine ⟨fun t' ht=>?_,by rw [h2];rfl⟩
   rcases List.mem_cons.1 ht with rfl | ht
   ·exact hok
   ·exact h1 t' ht
  ·rw [if_neg hok] at h;cases h
theorem zo1 {v:Int} (h:okV v=true):inI v:=by
 unfold okV at h
 rw [decide_eq_true_eq] at h
 unfold inI;omega
theorem zfJ (b:List Int) (x:Atom):(hd b x).2.length≤x.2.length:=by
 unfold hd
 cases h:insG b x.2 with
 | none=>simp
 | some vs=>exact Nat.le_of_eq (zkf h)
theorem zpE (b:List Int) (x:Atom):∀ v∈(hd b x).2,inI v:=by
 unfold hd
 cases h:insG b x.2 with
 | none=>simp
 | some vs =>
  obtain ⟨h1,h2⟩:=zha h
  intro v hv
  replace hv:v∈vs:=hv
  rw [h2] at hv
  obtain ⟨t,ht,rfl⟩:=List.mem_map.1 hv
  exact zo1 (h1 t ht)
def tf (fs:List Atom) (d:Dep) (b ev:List Int):List Atom:=can (fs++d.head.map (hd (setE b ev (nx fs))))
def tg (fs:List Atom) (d:Dep) (b ev:List Int):List Atom × Int :=
 if nx fs+(ev.length:Int) > 40 then (fs,3) else if ((tf fs d b ev).length:Int) > 30 then (fs,3) else (tf fs d b ev,1)
def pr (a:Ovi.Rows) (fs:List Atom) (c:Int):Option Res:=some [(true,[.row 112 3 a,.frow 114 2 1 (A1 fs)]),(false,[.d (.int .i64 c)])]
theorem c42x {a:Ovi.Rows} {fs:List Atom} {f:Ovi.Rows→Ovi.Rows→Option Res}:(za (some [(true,[.row 112 3 a,.frow 114 2 1 (A1 fs)])]) fun r16=>zc (resO 112 3 1 true 2 r16 0 0) fun l55=>zc (resF 114 2 1 1 true 2 r16 0 1) fun l53=>f l55 l53)=f a (A1 fs):=rfl
def hr (r:Int) (o:Option (List Int)):Int:=match o with
 | some _=>r
 | none=>0
theorem znC {r:Int} {o:Option (List Int)} {f:Int→Ovi.Rows→Bool→Option Res}:(za (okO r [] o) fun r16=>zg (resI .i64 2 true 2 r16 0 0) fun n17=>zc (resO 3 1 2 true 2 r16 0 1) fun l53=>zj (resB 2 false 1 r16 1 0) fun b19=>f n17 l53 b19)=f (hr r o) (I1 (o.getD [])) o.isSome:=by
 cases o<;>rfl
theorem znw (b:List Int) (x:Atom):hd b x=(hr x.1 (insG b x.2),(insG b x.2).getD []):=by
 unfold hd
 cases insG b x.2<;>rfl
theorem l44 {a:Ovi.Rows} {fs:List Atom} (hg:Gd a fs) (hv:Vl a fs) (d:Dep) (hT:∀ x∈d.head,okT x.2) (hz:Dsz d) (hh:d.head.length≤2) (b ev:List Int) (hb:b.length=5) (he:∀ z∈ev,0≤z∧z≤4) (hel:ev.length≤1000000) (hn40:0≤nx fs∧nx fs≤40) (hk:2000000≤k) :
  F44.L8 (k+20) (C (k+20)) (k+20) (nx fs) (ev.length:Int) 0 a (A1 fs) [] [] (A1 d.body) (A1 d.head) d.egd d.l d.r (I1 b) (I1 ev)=pr a (tg fs d b ev).1 (tg fs d b ev).2:=by
 have hmax:(1048576:Nat)≤maxLen:=by decide
 have hs:=hg.hs
 have hn30:=hv.n30
 have hcp:C (k+20) 42 [.agg [.d (.list 3 a),.d (.list 2 (A1 fs))]]=some [(true,[.row 112 3 a,.frow 114 2 1 (A1 fs)])]:=c42 (k:=k+16) hg.hal fs hg.fx (by omega) (by omega)
 have key:∀ (b':List Int) (nxt:Int),b'.length=5→nxt=nx fs+(ev.length:Int)→b'=setE b ev (nx fs)→F44.L15 (k+20) (C (k+20)) (k+20) (I1 b') nxt (A1 d.head) (d.head.length:Int) 0 a (A1 fs) [] [] a (A1 fs)=pr a (tg fs d b ev).1 (tg fs d b ev).2:=by
  intro b' nxt hb' hnx hbe
  have main:∀ (m i n:Nat),i+m=d.head.length→m < n→F44.L15 (k+20) (C (k+20)) n (I1 b') nxt (A1 d.head) (d.head.length:Int) (i:Int) a (A1 fs) [] [] a (A1 (fs++(d.head.take i).map (hd b')))=pr a (tg fs d b ev).1 (tg fs d b ev).2:=by
   intro m
   induction m with
   | zero =>
    intro i n hm hn
    obtain ⟨n,rfl⟩:∃ j,n=j+1:=⟨n - 1,by omega⟩
    obtain rfl:i=d.head.length:=by omega
    have e99:=c92 (k:=k+16) (fs++d.head.map (hd b')) (fun x hx=>by
     rcases List.mem_append.1 hx with hx | hx
     ·exact hg.fx x hx
     ·obtain ⟨y,hy,rfl⟩:=List.mem_map.1 hx
      have h1:=zfJ b' y
      have h2:=zab hy
      have h3:=hz.2
      omega) (by rw [List.length_append,List.length_map];omega) (by omega)
    rw [F44.L15.succ,ite'_f (lt_f (by omega)),List.take_length,e99]
    simp only [zi,zu,zI,zf]
    have hx:can (fs++d.head.map (hd b'))=tf fs d b ev:=by unfold tf;rw [hbe]
    rw [hx,zo]
    unfold tg
    by_cases h1:nxt > 40
    ·rw [ite'_t (by simpa using h1),if_pos (by omega),hcp,c42x]
     rfl
    ·rw [ite'_f (by simpa using h1),if_neg (by omega)]
     by_cases h2:((tf fs d b ev).length:Int) > 30
     ·rw [ite'_t (by simpa using h2),if_pos h2,hcp,c42x]
      rfl
     ·rw [ite'_f (by simpa using h2),if_neg h2]
      rfl
   | succ m ih =>
    intro i n hm hn
    obtain ⟨n,rfl⟩:∃ j,n=j+1:=⟨n - 1,by omega⟩
    have hi:i < d.head.length:=by omega
    have hgt:=List.getElem?_eq_getElem hi
    have hm2:=List.getElem_mem hi
    have hlt:=zab hm2
    have hz2:=hz.2
    have:=ih (i+1) n (by omega) (by omega)
    rw [List.take_succ_eq_append_getElem hi,List.map_append,List.map_singleton,← List.append_assoc] at this
    rw [F44.L15.succ,ite'_t (lt_t hi),zo,ite'_t (zn hi),zaS hgt,zd,zaT hgt,zf,c91g (k:=k+17) d.head[i] b' (hT _ hm2) (by omega) hb' (by omega),znC,zz hi (m:=d.head.length) (by omega),zo,ite'_t (zQ (by rw [List.length_append,List.length_map,List.length_take];simp only [List.length_cons,List.length_nil];omega))]
    rw [znw,← zin] at this
    exact this
  have:=main d.head.length 0 (k+20) (by omega) (by omega)
  simpa using this
 have outer:∀ (m i n:Nat) (b':List Int) (nxt:Int),i+m=ev.length→m < n→b'.length=5→nxt=nx fs+(i:Int)→setE b' (ev.drop i) nxt=setE b ev (nx fs) →
   F44.L8 (k+20) (C (k+20)) n nxt (ev.length:Int) (i:Int) a (A1 fs) [] [] (A1 d.body) (A1 d.head) d.egd d.l d.r (I1 b') (I1 ev)=pr a (tg fs d b ev).1 (tg fs d b ev).2:=by
  intro m
  induction m with
  | zero =>
   intro i n b' nxt hm hn hb' hx hse
   obtain ⟨n,rfl⟩:∃ j,n=j+1:=⟨n - 1,by omega⟩
   obtain rfl:i=ev.length:=by omega
   rw [List.drop_length] at hse
   rw [F44.L8.succ,ite'_f (lt_f (by omega)),hcp,c42x,zo]
   exact key b' nxt hb' hx hse
  | succ m ih =>
   intro i n b' nxt hm hn hb' hx hse
   obtain ⟨n,rfl⟩:∃ j,n=j+1:=⟨n - 1,by omega⟩
   have hi:i < ev.length:=by omega
   have hgt:=List.getElem?_eq_getElem hi
   obtain ⟨z0,z4⟩:=he _ (List.getElem_mem hi)
   obtain ⟨q,hq⟩:∃ q:Nat,ev[i]=(q:Int):=⟨ev[i].toNat,by omega⟩
   have hq5:q < b'.length:=by omega
   rw [List.drop_eq_getElem_cons hi,setE] at hse
   rw [F44.L8.succ,ite'_t (lt_t hi),zl,ite'_t (zn hi),I1_c hgt,zd,show (C (k+20) 90 [.d (.int .i64 nxt)])=io (neg nxt) from by rw [F90.run,zae (by omega) (by omega)];rfl,iB',hq,zl,ite'_t (zn hq5),zz hi (m:=ev.length) (by omega),zae (n:=nxt+1) (by omega) (by omega)]
   rw [show ((q:Int)).toNat=q from rfl,zcy _ hq5]
   rw [hq] at hse
   exact ih (i+1) n _ _ (by omega) (by omega) (by rw [List.length_set];exact hb') (by omega) hse
 exact outer ev.length 0 (k+20) b (nx fs) (by omega) (by omega) hb (by simp) rfl
end Go.Proofs.YtiacahdabflcdaaGreat.Q
namespace Go.Proofs.YtiacahdabflcdaaGreat.Q
open Go Ovi
variable {k:Nat}
def Sp (r:Option Res) (a:Ovi.Rows) (fs:List Atom) (c:Int):Prop:=∃ r',r=some r'∧resL 3 2 true 2 r' 0 0=some a∧resL 2 2 true 2 r' 0 1=some (A1 fs)∧resI .i64 2 false 1 r' 1 0=some c
theorem Sp.pr (a:Ovi.Rows) (fs:List Atom) (c:Int):Sp (pr a fs c) a fs c:=⟨_,rfl,rfl,rfl,by simp [resI,zX,zy]⟩
theorem Sp.w (a:Ovi.Rows) (fs:List Atom) (c:Int):Sp (some [(true,[.row 112 3 a,.row 114 2 (A1 fs)]),(false,[.d (.int .i64 c)])]) a fs c:=⟨_,rfl,rfl,rfl,by simp [resI,zX,zy]⟩
theorem Sp.d (a:Ovi.Rows) (fs:List Atom) (c:Int):Sp (some [(true,[.d (.list 3 a),.d (.list 2 (A1 fs))]),(false,[.d (.int .i64 c)])]) a fs c:=⟨_,rfl,by simp [resL,zX,D.asL],by simp [resL,zX,D.asL],by simp [resI,zX,zy]⟩
theorem l71 {a:Ovi.Rows} {fs:List Atom} (hg:Gd a fs) (hv:Vl a fs) (d:Dep) (hT:∀ x∈d.head,okT x.2) (hz:Dsz d) (hh:d.head.length≤2) (b ev:List Int) (hb:b.length=5) (hbI:∀ v∈b,inI v) (he:∀ z∈ev,0≤z∧z≤4) (hel:ev.length≤1000000) (hn40:0≤nx fs∧nx fs≤40) (hk:2000000≤k) :
  Sp (F71.L15 (k+20) (C (k+20)) (k+20) 0 a (A1 fs) (A1 d.body) (A1 d.head) d.egd d.l d.r [] [] a (A1 fs) (I1 b) (I1 ev)) a (tg fs d b ev).1 (tg fs d b ev).2:=by
 have hmax:(1048576:Nat)≤maxLen:=by decide
 have hs:=hg.hs
 have hn30:=hv.n30
 have key:∀ (b':List Int),b'.length=5→(∀ v∈b',inI v)→nx fs+(ev.length:Int)≤40→b'=setE b ev (nx fs)→Sp (F71.L23 (k+20) (C (k+20)) (k+20) (I1 b') 0 (A1 d.body) (A1 d.head) d.egd d.l d.r [] [] a (A1 fs) a (A1 fs)) a (tg fs d b ev).1 (tg fs d b ev).2:=by
  intro b' hb' hbI' hle hbe
  have main:∀ (m i n:Nat) (gs:List Atom),i+m=d.head.length→m < n→SSA gs→(∀ z,z∈gs↔z∈fs++(d.head.take i).map (hd b'))→gs.length≤fs.length+i→Sp (F71.L23 (k+20) (C (k+20)) n (I1 b') (i:Int) (A1 d.body) (A1 d.head) d.egd d.l d.r [] [] a (A1 fs) a (A1 gs)) a (tg fs d b ev).1 (tg fs d b ev).2:=by
   intro m
   induction m with
   | zero =>
    intro i n gs hm hn hS hmem hgl
    obtain ⟨n,rfl⟩:∃ j,n=j+1:=⟨n - 1,by omega⟩
    obtain rfl:i=d.head.length:=by omega
    have e:gs=tf fs d b ev:=by
     refine zkF hS (zd6 _) fun z=>?_
     rw [hmem z,List.take_length,hbe]
     exact (zbQ _ _).symm
    subst e
    rw [F71.L23.succ,zo,zo,ite'_f (lt_f (by omega))]
    unfold tg
    rw [if_neg (by omega)]
    by_cases h2:((tf fs d b ev).length:Int) > 30
    ·rw [ite'_t (by simpa using h2),if_pos h2]
     exact Sp.d a fs 3
    ·rw [ite'_f (by simpa using h2),if_neg h2,c68 (k:=k+17) hg.hal (tf fs d b ev) (fun z hz'=>by
      rcases List.mem_append.1 ((zbQ _ _).1 hz') with hx | hx
      ·exact hg.fx z hx
      ·obtain ⟨y,hy,rfl⟩:=List.mem_map.1 hx
       have h1:=zfJ (setE b ev (nx fs)) y
       have h2:=zab hy
       have h3:=hz.2
       omega) (by omega) (by omega),c42x]
     exact Sp.w a _ 1
   | succ m ih =>
    intro i n gs hm hn hS hmem hgl
    obtain ⟨n,rfl⟩:∃ j,n=j+1:=⟨n - 1,by omega⟩
    have hi:i < d.head.length:=by omega
    have hgt:=List.getElem?_eq_getElem hi
    have hm2:=List.getElem_mem hi
    have hlt:=zab hm2
    have hz2:=hz.2
    have hl2:=zfJ b' d.head[i]
    obtain ⟨r,ws,e1,e2,e3,e4,e5,e6⟩:=c125 (k:=k+15) (a:=a) gs (hd b' d.head[i]) hS (fun z hz'=>by
      rcases List.mem_append.1 ((hmem z).1 hz') with hx | hx
      ·exact hg.fx z hx
      ·obtain ⟨y,hy,rfl⟩:=List.mem_map.1 hx
       have h1:=zfJ b' y
       have h2:=zab (List.mem_of_mem_take hy)
       have h3:=hz.2
       omega) (by omega) (by omega) (by omega)
    rw [F71.L23.succ,zo,ite'_t (lt_t hi),ite'_t (zn hi),zaS hgt,zd,zaT hgt,zf,znp (k:=k+16) d.head[i] b' (hT _ hm2) (by omega) hb' hbI' (by omega),znC,zz hi (m:=d.head.length) (by omega)]
    rw [show hd b' d.head[i]=(hr d.head[i].1 (insG b' d.head[i].2),(insG b' d.head[i].2).getD []) from znw _ _] at e1
    rw [show (C (k+20) 125 [.agg [.d (.list 3 a),.d (.list 2 (A1 gs))],.agg [.d (.int .i64 (hr d.head[i].1 (insG b' d.head[i].2))),.d (.list 1 (I1 ((insG b' d.head[i].2).getD [])))]])=some r from e1,R54 e2 e3]
    refine ih (i+1) n ws (by omega) (by omega) e4 (fun z=>?_) (by omega)
    rw [e5,hmem,List.take_succ_eq_append_getElem hi,List.map_append,← List.append_assoc,List.mem_append (s:=fs++_),List.map_singleton,List.mem_singleton]
  exact main d.head.length 0 (k+20) fs (by omega) (by omega) hv.ss (by simp) (by omega)
 have outer:∀ (m i n:Nat) (b':List Int),i+m=ev.length→m < n→b'.length=5→(∀ v∈b',inI v)→(i≠0→nx fs+(i:Int)≤40)→setE b' (ev.drop i) (nx fs+(i:Int))=setE b ev (nx fs) →
   Sp (F71.L15 (k+20) (C (k+20)) n (i:Int) a (A1 fs) (A1 d.body) (A1 d.head) d.egd d.l d.r [] [] a (A1 fs) (I1 b') (I1 ev)) a (tg fs d b ev).1 (tg fs d b ev).2:=by
  intro m
  induction m with
  | zero =>
   intro i n b' hm hn hb' hbI' h40 hse
   obtain ⟨n,rfl⟩:∃ j,n=j+1:=⟨n - 1,by omega⟩
   obtain rfl:i=ev.length:=by omega
   rw [List.drop_length] at hse
   rw [F71.L15.succ,zl,ite'_f (lt_f (by omega))]
   refine key b' hb' hbI' ?_ hse
   by_cases h0:ev.length=0
   ·rw [h0];omega
   ·exact h40 h0
  | succ m ih =>
   intro i n b' hm hn hb' hbI' h40 hse
   obtain ⟨n,rfl⟩:∃ j,n=j+1:=⟨n - 1,by omega⟩
   have hi:i < ev.length:=by omega
   have hgt:=List.getElem?_eq_getElem hi
   obtain ⟨z0,z4⟩:=he _ (List.getElem_mem hi)
   obtain ⟨q,hq⟩:∃ q:Nat,ev[i]=(q:Int):=⟨ev[i].toNat,by omega⟩
   have hq5:q < b'.length:=by omega
   rw [List.drop_eq_getElem_cons hi,setE] at hse
   have e75:=(zko (k:=k+14) a fs hg.hI (by omega) (by omega)).2
   unfold ia at e75
   rw [F71.L15.succ,zl,ite'_t (lt_t hi),show (C (k+20) 122 [.agg [.d (.list 3 a),.d (.list 2 (A1 fs))]])=io (nx fs) from e75,iB',zae (n:=nx fs+(i:Int)) (by omega) (by omega)]
   by_cases h4:nx fs+(i:Int) ≥ 40
   ·rw [ite'_t (by simpa using h4)]
    unfold tg
    rw [if_pos (by omega)]
    exact Sp.w a fs 3
   ·rw [ite'_f (by simpa using h4),ite'_t (zn hi),I1_c hgt,zd,show (C (k+20) 123 [.d (.int .i64 (nx fs+(i:Int)))])=io (neg (nx fs+(i:Int))) from by rw [F123.run,zae (by omega) (by omega)];rfl,iB',hq,zl,ite'_t (zn hq5),zz hi (m:=ev.length) (by omega),show ((q:Int)).toNat=q from rfl,zcy _ hq5]
    rw [hq] at hse
    refine ih (i+1) n _ (by omega) (by omega) (by rw [List.length_set];exact hb') (fun v hv'=>?_) (fun _=>by omega) ?_
    ·rcases List.mem_or_eq_of_mem_set hv' with hv' | rfl
     ·exact hbI' v hv'
     ·unfold inI neg;omega
    ·rw [show nx fs+((i+1:Nat):Int)=nx fs+(i:Int)+1 by omega]
     exact hse
 exact outer ev.length 0 (k+20) b (by omega) (by omega) hb hbI (by simp) (by simp)
end Go.Proofs.YtiacahdabflcdaaGreat.Q
namespace Go.Proofs.YtiacahdabflcdaaGreat.Q
open Go Ovi
variable {k:Nat}
theorem aB {a X:Ovi.Rows} {f:Ovi.Rows→Ovi.Rows→Bool→Option Res}:(za (some [(true,[.row 112 3 a,.frow 114 2 1 X]),(false,[.d (.bool true)])]) fun r=>zc (resO 112 3 2 true 2 r 0 0) fun l=>zc (resF 114 2 1 2 true 2 r 0 1) fun m=>zj (resB 2 false 1 r 1 0) fun b=>f l m b)=f a X true:=rfl
theorem prB {a:Ovi.Rows} {fs:List Atom} {c:Int} {f:Ovi.Rows→Ovi.Rows→Int→Option Res}:(za (pr a fs c) fun r=>zc (resO 112 3 2 true 2 r 0 0) fun l=>zc (resF 114 2 1 2 true 2 r 0 1) fun m=>zg (resI .i64 2 false 1 r 1 0) fun n=>f l m n)=f a (A1 fs) c:=rfl
theorem mm {p q:Int} (hp:okV p=true) (hq:okV q=true) (h:p < 0∨q < 0):isN (minI p q)=true∧okV (maxI p q)=true∧inI (minI p q)∧inI (maxI p q):=by
 unfold okV at *
 rw [decide_eq_true_eq] at hp hq
 unfold isN inI minI maxI
 rw [decide_eq_true_eq,decide_eq_true_eq]
 by_cases h1:q < p
 ·rw [if_pos h1,if_neg (by omega)];omega
 ·rw [if_neg h1]
  by_cases h2:q > p
  ·rw [if_pos h2];omega
  ·rw [if_neg h2];omega
def eg (fs:List Atom) (p q:Int):List Atom × Int:=if p < 0∨q < 0 then (subI (-1 - minI p q) (maxI p q) fs,1) else (fs,2)
theorem c86 {a:Ovi.Rows} {fs:List Atom} (hg:Gd a fs) (hi:Inst a fs true) {p q:Int} (hp:okV p=true) (hq:okV q=true) (hk:2000000≤k):C (k+12) 86 [ia a fs,.d (.int .i64 p),.d (.int .i64 q)]=pr a (eg fs p q).1 (eg fs p q).2:=by
 have hs:=hg.hs
 have e134:∀ v,C (k+11) 145 [.d (.int .i64 v)]=bo (decide (v < 0)):=fun v=>by rw [F145.run];rfl
 have hsub:p < 0∨q < 0→(za (C (k+11) 146 [.d (.int .i64 (minI p q))]) fun r8=>zg (resI IntKind.i64 2 false 1 r8 0 0) fun n9=>zj (resB 2 false 1 r8 1 0) fun b10=>za (C (k+11) 147 [AV.agg [AV.d (D.list 1 [[D.int IntKind.i64 n9]]),AV.d (D.list 1 [[D.int IntKind.i64 (maxI p q)]])],AV.agg [AV.d (D.list 3 a),AV.d (D.list 2 (A1 fs))]]) fun r11=>zc (resO 112 3 2 true 2 r11 0 0) fun l14=>zc (resF 114 2 1 2 true 2 r11 0 1) fun l15=>zj (resB 2 false 1 r11 1 0) fun b14=>some ([(true,[RL.row 112 3 l14,RL.frow 114 2 1 l15]),(false,[RL.d (D.int IntKind.i64 (1:Int))])]))=pr a (subI (-1 - minI p q) (maxI p q) fs) 1:=by
  intro h
  obtain ⟨m1,m2,m3,m4⟩:=mm hp hq h
  have hn:=zgl m1
  have e136:=zpr (k:=k) (a:=a) (fs:=fs) (-1 - minI p q) (maxI p q) (by unfold zbs;rw [m2,Bool.and_true,decide_eq_true_eq];omega) hi hg.hal hg.fx hg.hI (by omega) hk
  unfold s1 ia at e136
  rw [c146 (k:=k+9) m3,nnB,if_pos m1,e136,aB]
  rfl
 unfold ia
 rw [F86.run,e134,e134,bB,bB]
 unfold eg
 by_cases h1:p < 0
 ·rw [decide_eq_true h1,ite'_nt,if_pos (.inl h1)]
  exact hsub (.inl h1)
 ·rw [decide_eq_false h1,ite'_nf]
  by_cases h2:q < 0
  ·rw [decide_eq_true h2,ite'_nt,if_pos (.inr h2)]
   exact hsub (.inr h2)
  ·rw [decide_eq_false h2,ite'_nf,if_neg (by omega),c42 (k:=k+7) hg.hal fs hg.fx (by omega) (by omega),c42x]
   rfl
theorem zp4 {n w v:Int} (hw:inI w) (hv:inI v):inI (sv n w v):=by
 unfold sv
 by_cases h:v=neg n
 ·rw [if_pos h];exact hw
 ·rw [if_neg h];exact hv
theorem zod {a:Ovi.Rows} {fs:List Atom} (hg:Gd a fs) (hv:Vl a fs) {n w:Int} (hw:inI w):Gd a (subI n w fs):=by
 refine hg.of3 (fun x hx=>?_) (fun x hx=>?_) (fun x hx=>?_) ?_
 ·obtain ⟨y,hy,rfl⟩:=List.mem_map.1 ((zbQ _ _).1 hx)
  exact hg.hR y hy
 ·obtain ⟨y,hy,rfl⟩:=List.mem_map.1 ((zbQ _ _).1 hx)
  intro z hz
  obtain ⟨t,ht,rfl⟩:=List.mem_map.1 hz
  exact zp4 hw (hg.hI y hy t ht)
 ·obtain ⟨y,hy,rfl⟩:=List.mem_map.1 ((zbQ _ _).1 hx)
  have:=hv.l3 y hy
  simpa [subF] using this
 ·have:=zkX (fs.map (subF n w))
  rw [List.length_map] at this
  have h2:=hv.n30
  unfold subI
  omega
theorem zoo {a:Ovi.Rows} {fs:List Atom} {ib:Bool} {d:Dep} (hg:Gd a fs) (hi:InstY a fs ib) (hv:ib=true→Vl a fs) (hd:DepY a d) (hz:Dsz d) (b:List Int) (hI:∀ v∈b,inI v) (hb:b.length≤1048576) :
  ∃ vb fs' c,(vb=false↔c=0)∧Gd a fs'∧∀ k,3000000≤k→C (k+20) 118 [ia a fs,da d,.d (.list 1 (I1 b))]=bo vb∧C (k+21) 44 [ia a fs,da d,.d (.list 1 (I1 b))]=pr a fs' c∧Sp (C (k+21) 71 [ia a fs,da d,.d (.list 1 (I1 b))]) a fs' c:=by
 have hmax:(1048576:Nat)≤maxLen:=by decide
 have hs:=hg.hs
 obtain ⟨vb,hvb,hact⟩:=actv hi hd hz b hI hb
 have c42k:∀ k,2000000≤k→C (k+20) 42 [.agg [.d (.list 3 a),.d (.list 2 (A1 fs))]]=some [(true,[.row 112 3 a,.frow 114 2 1 (A1 fs)])]:=fun k hk=>c42 (k:=k+16) hg.hal fs hg.fx (by omega) (by omega)
 have c68k:∀ k,2000000≤k→C (k+20) 68 [.agg [.d (.list 3 a),.d (.list 2 (A1 fs))]]=some [(true,[.row 112 3 a,.frow 114 2 1 (A1 fs)])]:=fun k hk=>c68 (k:=k+17) hg.hal fs hg.fx (by omega) (by omega)
 cases hvb0:vb with
 | false =>
  subst hvb0
  refine ⟨false,fs,0,by simp,hg,fun k hk=>?_⟩
  have h:=hact k (by omega)
  have c1:=c42k k (by omega)
  have c2:=c68k k (by omega)
  refine ⟨h.2,?_,?_⟩
  ·unfold ia da at *
   rw [F44.run,h.1,bB,ite'_nf,c1,c42x];rfl
  ·unfold ia da at *
   rw [F71.run,c2,c42x,h.2,bB,ite'_nf]
   exact Sp.w a fs 0
 | true =>
  subst hvb0
  obtain ⟨hib,hb5,hbad,hmiss,hne⟩:=hvb rfl
  subst hib
  have hV:=hv rfl
  have hD:=hd.1
  cases he:d.egd with
  | true =>
   obtain ⟨hhd,hl,hr⟩:=hD.e he
   have okvar:∀ z,zZ d.body z→okV (b.getD z.toNat 0)=true∧0≤z∧z≤4:=by
    intro z hzv
    obtain ⟨z0,z4⟩:=ziA hD.bv hzv
    obtain ⟨_,x,hx,hzx⟩:=hzv
    have hm:=hmiss x hx
    cases hins:insG b x.2 with
    | none=>rw [zdA hins] at hm;cases hm
    | some vs =>
     have:=(zha hins).1 z hzx
     unfold val at this
     rw [if_pos z0] at this
     exact ⟨this,z0,z4⟩
   obtain ⟨hp,l0,l4⟩:=okvar d.l hl
   obtain ⟨hq,r0,r4⟩:=okvar d.r hr
   obtain ⟨p,hpe⟩:∃ p:Nat,d.l=(p:Int):=⟨d.l.toNat,by omega⟩
   obtain ⟨q,hqe⟩:∃ q:Nat,d.r=(q:Int):=⟨d.r.toNat,by omega⟩
   have hp5:p < b.length:=by omega
   have hq5:q < b.length:=by omega
   have hbp:b[p]? = some (b.getD p 0):=by rw [List.getD_eq_getElem?_getD,List.getElem?_eq_getElem hp5];rfl
   have hbq:b[q]? = some (b.getD q 0):=by rw [List.getD_eq_getElem?_getD,List.getElem?_eq_getElem hq5];rfl
   rw [hpe,Int.toNat_natCast] at hp
   rw [hqe,Int.toNat_natCast] at hq
   refine ⟨true,(eg fs (b.getD p 0) (b.getD q 0)).1,(eg fs (b.getD p 0) (b.getD q 0)).2,?_,?_,fun k hk=>?_⟩
   ·unfold eg
    by_cases h:b.getD p 0 < 0∨b.getD q 0 < 0
    ·rw [if_pos h];simp
    ·rw [if_neg h];simp
   ·unfold eg
    by_cases h:b.getD p 0 < 0∨b.getD q 0 < 0
    ·rw [if_pos h];exact zod hg hV (mm hp hq h).2.2.2
    ·rw [if_neg h];exact hg
   ·have h:=hact k (by omega)
    have c2:=c68k k (by omega)
    have e93:=c86 (k:=k+8) hg hi.ok hp hq (by omega)
    refine ⟨h.2,?_,?_⟩
    ·unfold ia da at *
     rw [he,hpe,hqe] at h ⊢
     rw [F44.run,h.1,bB,ite'_nt,ite'_t rfl,zl,ite'_t (zn hp5),I1_c hbp,zd,ite'_t (zn hq5),I1_c hbq,zd,e93,prB]
     rfl
    ·have hsub:b.getD p 0 < 0∨b.getD q 0 < 0→(za (C (k+20) 119 [.d (.int .i64 (minI (b.getD p 0) (b.getD q 0)))]) fun r17=>zg (resI IntKind.i64 2 false 1 r17 0 0) fun n18=>zj (resB 2 false 1 r17 1 0) fun b19=>za (C (k+20) 120 [AV.agg [AV.d (D.list 1 [[D.int IntKind.i64 n18]]),AV.d (D.list 1 [[D.int IntKind.i64 (maxI (b.getD p 0) (b.getD q 0))]])],AV.agg [AV.d (D.list 3 a),AV.d (D.list 2 (A1 fs))]]) fun r20=>zc (resO 112 3 2 true 2 r20 0 0) fun l33=>zc (resF 114 2 1 2 true 2 r20 0 1) fun l55=>zj (resB 2 false 1 r20 1 0) fun b23=>some ([(true,[RL.row 112 3 l33,RL.row 114 2 l55]),(false,[RL.d (D.int IntKind.i64 (1:Int))])]))=some [(true,[RL.row 112 3 a,RL.row 114 2 (A1 (subI (-1 - minI (b.getD p 0) (b.getD q 0)) (maxI (b.getD p 0) (b.getD q 0)) fs))]),(false,[RL.d (D.int IntKind.i64 (1:Int))])]:=by
      intro h
      obtain ⟨m1,m2,m3,m4⟩:=mm hp hq h
      have hn:=zgl m1
      have hn30:=hV.n30
      have e73:=zpq (k:=k+9) (a:=a) (fs:=fs) (-1 - minI (b.getD p 0) (b.getD q 0)) (maxI (b.getD p 0) (b.getD q 0)) (by unfold zbs;rw [m2,Bool.and_true,decide_eq_true_eq];omega) m4 hi.ok hg.hal hg.fx (by omega) (by omega)
      unfold s1 ia at e73
      rw [c119 (k:=k+18) m3,nnB,if_pos m1,e73,aB]
     unfold ia da at *
     rw [he,hpe,hqe] at h ⊢
     rw [F71.run,c2,c42x,h.2,bB,ite'_nt,ite'_t rfl,zl,ite'_t (zn hp5),I1_c hbp,zd,ite'_t (zn hq5),I1_c hbq,zd]
     unfold eg
     by_cases h1:b.getD p 0 < 0
     ·rw [ite'_f (decide_eq_false (by omega)),hsub (.inl h1),if_pos (.inl h1)]
      exact Sp.w a _ 1
     ·rw [ite'_t (decide_eq_true (by omega))]
      by_cases h2:b.getD q 0 < 0
      ·rw [ite'_f (decide_eq_false (by omega)),hsub (.inr h2),if_pos (.inr h2)]
       exact Sp.w a _ 1
      ·rw [ite'_t (decide_eq_true (by omega)),if_neg (by omega)]
       exact Sp.w a fs 2
  | false =>
   obtain ⟨hh2,hht⟩:=hD.t he
   obtain ⟨ev,hev,hevl,hex⟩:=zou d hz
   have hz2:=hz.2
   have hev4:∀ z∈ev,0≤z∧z≤4:=fun z hzm=>by
    obtain ⟨⟨h0,x,hx,hzx⟩,_⟩:=(hev z).1 hzm
    exact ⟨h0,((hht x hx).2.2 z hzx).2⟩
   have hT:∀ x∈d.head,okT x.2:=fun x hx=>(hht x hx).2.2
   have h40:=znA fs
   have hl3:∀ x∈d.head,x.2.length≤3:=fun x hx=>by
    have h1:=(hht x hx).2.1
    have h2:=hV.ar3 x.1 (hht x hx).1.1 (hht x hx).1.2
    omega
   have hevn:ev.length≤1000000:=by have:=zjm hl3;omega
   refine ⟨true,(tg fs d b ev).1,(tg fs d b ev).2,?_,?_,fun k hk=>?_⟩
   ·unfold tg
    by_cases h:nx fs+(ev.length:Int) > 40
    ·rw [if_pos h];simp
    ·rw [if_neg h]
     by_cases h2:((tf fs d b ev).length:Int) > 30
     ·rw [if_pos h2];simp
     ·rw [if_neg h2];simp
   ·unfold tg
    by_cases h:nx fs+(ev.length:Int) > 40
    ·rw [if_pos h];exact hg
    ·rw [if_neg h]
     by_cases h2:((tf fs d b ev).length:Int) > 30
     ·rw [if_pos h2];exact hg
     ·rw [if_neg h2]
      refine hg.of3 (fun x hx=>?_) (fun x hx=>?_) (fun x hx=>?_) (show (tf fs d b ev).length≤30 by omega)
      ·rcases List.mem_append.1 ((zbQ _ _).1 hx) with hx | hx
       ·exact hg.hR x hx
       ·obtain ⟨y,hy,rfl⟩:=List.mem_map.1 hx
        have h1:=(hht y hy).1.1
        have h2:=(hht y hy).1.2
        have h3:=hg.hal
        unfold Q.hd
        cases insG (setE b ev (nx fs)) y.2 with
        | some vs=>show inI y.1;unfold inI;omega
        | none=>show inI 0;unfold inI;omega
      ·rcases List.mem_append.1 ((zbQ _ _).1 hx) with hx | hx
       ·exact hg.hI x hx
       ·obtain ⟨y,hy,rfl⟩:=List.mem_map.1 hx
        exact zpE _ y
      ·rcases List.mem_append.1 ((zbQ _ _).1 hx) with hx | hx
       ·exact hV.l3 x hx
       ·obtain ⟨y,hy,rfl⟩:=List.mem_map.1 hx
        have h1:=zfJ (setE b ev (nx fs)) y
        have h2:=hl3 y hy
        omega
   ·have h:=hact k (by omega)
    have c2:=c68k k (by omega)
    have hx1:=(hex (k+17) (by omega)).1
    have hx2:=(hex (k+17) (by omega)).2
    have e94:C (k+20) 87 [.d (.list 1 (I1 b))]=some [(false,[.row 3 1 (I1 b)])]:=by
     have:C (k+20) 87 [.d (.list 1 (I1 b))]=zbw 3 [.d (.list 1 (I1 b))]:=by kernel_rfl
     rw [this]
     simp only [zbw,za6]
     rw [show Nat.ble b.length 1099511627776=true from Nat.ble_eq_true_of_le (by omega)]
     rfl
    have e95:=(zko (k:=k+14) a fs hg.hI (by omega) (by omega)).1
    have g1:=l44 (k:=k) hg hV d hT hz hh2 b ev hb5 hev4 hevn h40 (by omega)
    have g2:=l71 (k:=k) hg hV d hT hz hh2 b ev hb5 hI hev4 hevn h40 (by omega)
    refine ⟨h.2,?_,?_⟩
    ·unfold ia da at *
     rw [he] at h hx1 g1 ⊢
     rw [F44.run,h.1,bB,ite'_nt,ite'_f rfl,e94]
     simp only [zi,zu,zf]
     rw [show (C (k+20) 88 [.agg [.d (.list 3 a),.d (.list 2 (A1 fs))]])=io (nx fs) from e95,iB',hx1]
     simp only [zi,zu,zf]
     rw [zl]
     exact g1
    ·unfold ia da at *
     rw [he] at h hx2 g2 ⊢
     rw [F71.run,c2,c42x,h.2,bB,ite'_nt,ite'_f rfl,zl,ite'_t (zQ (by omega)),hx2]
     simp only [zi,zu,zf]
     exact g2
end Go.Proofs.YtiacahdabflcdaaGreat.Q
namespace Go.Proofs.YtiacahdabflcdaaGreat.Q
open Go Ovi
variable {k:Nat}
theorem zpY {fs xs:List Atom} (hf:∀ f∈fs,∀ v∈f.2,inI v):∀ c∈mtc fs xs,∀ v∈c,inI v:=by
 intro c hc v hv
 unfold mtc at hc
 rcases (zgg _ _ _).1 hc with h | h
 ·cases h
 ·rcases ziD fs xs tens c h v hv with h1 | ⟨f,h1,h2⟩
  ·simp [tens] at h1
   subst h1
   unfold inI;omega
  ·exact hf f h1 v h2
theorem zny {fs xs:List Atom} {f:Ovi.Rows→Option Res}:(za (mtr true fs xs) fun r=>zc (resO 27 1 1 false 1 r 0 0) f)=f (LL (mtc fs xs)):=rfl
theorem zju {l:BL} {i:Nat} {x:List Int} (h:l[i]? = some x):zq 1 (LL l) (i:Int).toNat 0=some (I1 x):=by
 rw [Int.toNat_natCast,zV (show (LL l)[i]? = some [.list 1 (I1 x)] by simp [LL,h])];simp [zJ]
theorem zpp {a:Ovi.Rows} {fs:List Atom} {d:Dep} (hg:Gd a fs) (hi:InstY a fs true) (hd:DepY a d) (hz:Dsz d) :
  ∃ L:BL,L.length≤27000∧(∀ x∈L,x.length=5∧∀ v∈x,inI v)∧∀ k,3000000≤k→C (k+22) 84 [ia a fs,da d]=some [(false,[.row 27 1 (LL L)])]∧C (k+22) 117 [ia a fs,da d]=some [(false,[.row 27 1 (LL L)])]:=by
 have hmax:(1048576:Nat)≤maxLen:=by decide
 have hD:=hd.1
 have hq:Qok a fs d.body (fun _=>true) true:=hi.qok hz.1 hD.b1 (by have:=hD.b2;omega) hD.bV hD.bv
 obtain ⟨m1,m2⟩:=zeY (hq.mok rfl)
 have m3:=zpY (fs:=fs) (xs:=d.body) hg.hI
 have:∀ b:List Int,∃ vb,b∈mtc fs d.body→∀ k,2000000≤k→C (k+20) 85 [ia a fs,da d,.d (.list 1 (I1 b))]=bo vb∧C (k+20) 118 [ia a fs,da d,.d (.list 1 (I1 b))]=bo vb:=by
  intro b
  by_cases h:b∈mtc fs d.body
  ·obtain ⟨vb,_,hv⟩:=actv hi hd hz b (m3 b h) (by rw [m2 b h];omega)
   exact ⟨vb,fun _=>hv⟩
  ·exact ⟨false,fun h'=>absurd h' h⟩
 obtain ⟨act,hact⟩:=Classical.axiomOfChoice this
 refine ⟨(mtc fs d.body).filter act,?_,fun x hx=>?_,fun k hk=>?_⟩
 ·have:=List.length_filter_le act (mtc fs d.body)
  omega
 ·have:=(List.mem_filter.1 hx).1
  exact ⟨m2 x this,m3 x this⟩
 ·have L100:∀ (m i n:Nat),i+m=(mtc fs d.body).length→m < n→F84.L5 (k+21) (C (k+21)) n ((mtc fs d.body).length:Int) (i:Int) a (A1 fs) (A1 d.body) (A1 d.head) d.egd d.l d.r (LL (((mtc fs d.body).take i).filter act)) (LL (mtc fs d.body))=some [(false,[.row 27 1 (LL ((mtc fs d.body).filter act))])]:=by
   intro m
   induction m with
   | zero =>
    intro i n hm hn
    obtain ⟨n,rfl⟩:∃ j,n=j+1:=⟨n - 1,by omega⟩
    obtain rfl:i=(mtc fs d.body).length:=by omega
    rw [F84.L5.succ,ite'_f (lt_f (by omega)),List.take_length]
   | succ m ih =>
    intro i n hm hn
    obtain ⟨n,rfl⟩:∃ j,n=j+1:=⟨n - 1,by omega⟩
    have hi':i < (mtc fs d.body).length:=by omega
    have hgt:=List.getElem?_eq_getElem hi'
    have e:=(hact _ (List.getElem_mem hi') (k+1) (by omega)).1
    have hft:=List.length_filter_le act ((mtc fs d.body).take i)
    rw [List.length_take] at hft
    have:=ih (i+1) n (by omega) (by omega)
    rw [List.take_succ_eq_append_getElem hi',List.filter_append] at this
    unfold ia da at e
    rw [F84.L5.succ,ite'_t (lt_t hi'),zx,ite'_t (zn hi'),zju hgt,zf,show (C (k+21) 85 [.agg [.d (.list 3 a),.d (.list 2 (A1 fs))],.agg [.d (.list 2 (A1 d.body)),.d (.list 2 (A1 d.head)),.d (.bool d.egd),.d (.int .i64 d.l),.d (.int .i64 d.r)],.d (.list 1 (I1 (mtc fs d.body)[i]))])=bo (act (mtc fs d.body)[i]) from e,bB,zz hi' (m:=(mtc fs d.body).length) (by omega)]
    cases hv:act (mtc fs d.body)[i] with
    | true =>
     rw [ite'_t rfl,zx,ite'_t (zQ (by simp only [List.length_cons,List.length_nil];omega)),zdb]
     simpa [hv] using this
    | false =>
     rw [ite'_f rfl]
     simpa [hv] using this
  have L80:∀ (m i n:Nat),i+m=(mtc fs d.body).length→m < n→F117.L6 (k+21) (C (k+21)) n (i:Int) a (A1 fs) (A1 d.body) (A1 d.head) d.egd d.l d.r (LL (((mtc fs d.body).take i).filter act)) (LL (mtc fs d.body))=some [(false,[.row 27 1 (LL ((mtc fs d.body).filter act))])]:=by
   intro m
   induction m with
   | zero =>
    intro i n hm hn
    obtain ⟨n,rfl⟩:∃ j,n=j+1:=⟨n - 1,by omega⟩
    obtain rfl:i=(mtc fs d.body).length:=by omega
    rw [F117.L6.succ,zx,ite'_f (lt_f (by omega)),List.take_length]
   | succ m ih =>
    intro i n hm hn
    obtain ⟨n,rfl⟩:∃ j,n=j+1:=⟨n - 1,by omega⟩
    have hi':i < (mtc fs d.body).length:=by omega
    have hgt:=List.getElem?_eq_getElem hi'
    have e:=(hact _ (List.getElem_mem hi') (k+1) (by omega)).2
    have hft:=List.length_filter_le act ((mtc fs d.body).take i)
    rw [List.length_take] at hft
    have:=ih (i+1) n (by omega) (by omega)
    rw [List.take_succ_eq_append_getElem hi',List.filter_append] at this
    unfold ia da at e
    rw [F117.L6.succ,zx,ite'_t (lt_t hi'),ite'_t (zn hi'),zju hgt,zf,show (C (k+21) 118 [.agg [.d (.list 3 a),.d (.list 2 (A1 fs))],.agg [.d (.list 2 (A1 d.body)),.d (.list 2 (A1 d.head)),.d (.bool d.egd),.d (.int .i64 d.l),.d (.int .i64 d.r)],.d (.list 1 (I1 (mtc fs d.body)[i]))])=bo (act (mtc fs d.body)[i]) from e,bB,zz hi' (m:=(mtc fs d.body).length) (by omega)]
    cases hv:act (mtc fs d.body)[i] with
    | true =>
     rw [ite'_t rfl,ite'_t (zn hi'),zf,zx,ite'_t (zQ (by simp only [List.length_cons,List.length_nil];omega)),zdb]
     simpa [hv] using this
    | false =>
     rw [ite'_f rfl]
     simpa [hv] using this
  obtain ⟨hd1,hd2⟩:=hd.2 (k+9) (by omega)
  have e1:=c142 (k:=k+5) hq (by omega)
  have e2:=c167 (k:=k+4) hq (by omega)
  unfold ia da at *
  constructor
  ·rw [F84.run,hd1,bB,ite'_nt,e1,zny,zx]
   exact L100 (mtc fs d.body).length 0 (k+21) (by omega) (by omega)
  ·rw [F117.run,hd2,bB,ite'_nt,e2,zny]
   exact L80 (mtc fs d.body).length 0 (k+21) (by omega) (by omega)
theorem acts {a:Ovi.Rows} {fs:List Atom} {ib:Bool} {d:Dep} (hg:Gd a fs) (hi:InstY a fs ib) (hd:DepY a d) (hz:Dsz d) :
  ∃ L:BL,L.length≤27000∧(∀ x∈L,x.length=5∧∀ v∈x,inI v)∧∀ k,3000000≤k→C (k+22) 84 [ia a fs,da d]=some [(false,[.row 27 1 (LL L)])]∧C (k+22) 117 [ia a fs,da d]=some [(false,[.row 27 1 (LL L)])]:=by
 cases ib with
 | true=>exact zpp hg hi hd hz
 | false =>
  refine ⟨[],by simp,by simp,fun k hk=>?_⟩
  have hD:=hd.1
  have hq:Qok a fs d.body (fun _=>true) false:=hi.qok hz.1 hD.b1 (by have:=hD.b2;omega) hD.bV hD.bv
  obtain ⟨hd1,hd2⟩:=hd.2 (k+9) (by omega)
  have e1:=c142 (k:=k+5) hq (by omega)
  have e2:=c167 (k:=k+4) hq (by omega)
  have hn:∀ (f:Ovi.Rows→Option Res),(za (mtr false fs d.body) fun r=>zc (resO 27 1 1 false 1 r 0 0) f)=f []:=fun _=>rfl
  obtain ⟨n,hnk⟩:∃ n,k+21=n+1:=⟨k+20,rfl⟩
  unfold ia da at *
  constructor
  ·rw [F84.run,hd1,bB,ite'_nt,e1,hn,hnk,F84.L5.succ,ite'_f (by decide)]
   rfl
  ·rw [F117.run,hd2,bB,ite'_nt,e2,hn,hnk,F117.L6.succ,ite'_f (by decide)]
   rfl
theorem push (Lp:Nat→Int→Ovi.Rows→Option Res) (fin:Ovi.Rows→Option Res) (L:BL) (i:Int)
  (hstep:∀ (n j:Nat) (acc:List Atom) b,L[j]? = some b→acc.length≤1000000→Lp (n+1) (j:Int) (A1 acc)=Lp n ((j+1:Nat):Int) (A1 (acc++[(i,b)])))
  (hend:∀ (n:Nat) (acc:List Atom),Lp (n+1) (L.length:Int) (A1 acc)=fin (A1 acc)) :
  ∀ (m j n:Nat) (acc:List Atom),j+m=L.length→m < n→acc.length+m≤1000000→Lp n (j:Int) (A1 acc)=fin (A1 (acc++(L.drop j).map fun b=>(i,b))):=by
 intro m
 induction m with
 | zero =>
  intro j n acc hm hn ha
  obtain ⟨n,rfl⟩:∃ p,n=p+1:=⟨n - 1,by omega⟩
  obtain rfl:j=L.length:=by omega
  rw [hend,List.drop_length,List.map_nil,List.append_nil]
 | succ m ih =>
  intro j n acc hm hn ha
  obtain ⟨n,rfl⟩:∃ p,n=p+1:=⟨n - 1,by omega⟩
  have hj:j < L.length:=by omega
  rw [hstep n j acc L[j] (List.getElem?_eq_getElem hj) (by omega),ih (j+1) n _ (by omega) (by omega) (by simp only [List.length_append,List.length_cons,List.length_nil];omega),List.drop_eq_getElem_cons hj]
  simp only [List.append_assoc,List.singleton_append,List.map_cons]
theorem zlW (i:Int) (b:List Int):[[D.int .i64 i,D.list 1 (I1 b)]]=A1 [(i,b)]:=rfl
theorem A1_app' (xs ys:List Atom):A1 xs++A1 ys=A1 (xs++ys):=by simp [A1]
def Tn (Lg:Nat→BL) (i:Nat):List Atom:=(List.range i).flatMap fun j=>(Lg j).map fun b=>((j:Int),b)
theorem zir (Lg:Nat→BL) (i:Nat):Tn Lg (i+1)=Tn Lg i++(Lg i).map fun b=>((i:Int),b):=by
 unfold Tn
 rw [List.range_succ,List.flatMap_append]
 simp
theorem allT {a:Ovi.Rows} {fs:List Atom} {ib:Bool} (hg:Gd a fs) (hi:InstY a fs ib) (ds:List Dep) (hd:∀ d∈ds,DepY a d) (hz:∀ d∈ds,Dsz d) (hl:ds.length≤5) :
  ∃ T:List Atom,T.length≤135000∧(∀ x∈T,(0≤x.1∧x.1 < (ds.length:Int))∧x.2.length=5∧∀ v∈x.2,inI v)∧∀ k,3000000≤k→C (k+24) 43 [ia a fs,.d (.list 5 (DD ds))]=some [(false,[.row 83 2 (A1 T)])]∧C (k+24) 69 [ia a fs,.d (.list 5 (DD ds))]=some [(false,[.row 83 2 (A1 T)])]:=by
 have hmax:(1048576:Nat)≤maxLen:=by decide
 have:∀ i:Nat,∃ L:BL,L.length≤27000∧(∀ x∈L,x.length=5∧∀ v∈x,inI v)∧∀ d,ds[i]? = some d→∀ k,3000000≤k→C (k+22) 84 [ia a fs,da d]=some [(false,[.row 27 1 (LL L)])]∧C (k+22) 117 [ia a fs,da d]=some [(false,[.row 27 1 (LL L)])]:=by
  intro i
  cases h:ds[i]? with
  | none=>exact ⟨[],by simp,by simp,fun d hd=>by cases hd⟩
  | some d =>
   have hm:=List.mem_of_getElem? h
   obtain ⟨L,h1,h2,h3⟩:=acts hg hi (hd d hm) (hz d hm)
   exact ⟨L,h1,h2,fun d' hd'=>by cases hd';exact h3⟩
 obtain ⟨Lg,hLg⟩:=Classical.axiomOfChoice this
 have hlen:∀ i,(Tn Lg i).length≤27000 * i:=by
  intro i
  induction i with
  | zero=>simp [Tn]
  | succ i ih =>
   rw [zir,List.length_append,List.length_map]
   have:=(hLg i).1
   omega
 refine ⟨Tn Lg ds.length,by have:=hlen ds.length;omega,fun x hx=>?_,fun k hk=>?_⟩
 ·unfold Tn at hx
  obtain ⟨j,hj,hx⟩:=List.mem_flatMap.1 hx
  obtain ⟨b,hb,rfl⟩:=List.mem_map.1 hx
  have hj:=List.mem_range.1 hj
  exact ⟨⟨by show (0:Int)≤(j:Int);omega,by show (j:Int) < _;omega⟩,(hLg j).2.1 b hb⟩
 ·have L251:∀ (m i n:Nat),i+m=ds.length→m < n→F43.L3 (k+23) (C (k+23)) n (DD ds) (ds.length:Int) (i:Int) a (A1 fs) (A1 (Tn Lg i))=some [(false,[.row 83 2 (A1 (Tn Lg ds.length))])]:=by
   intro m
   induction m with
   | zero =>
    intro i n hm hn
    obtain ⟨n,rfl⟩:∃ j,n=j+1:=⟨n - 1,by omega⟩
    obtain rfl:i=ds.length:=by omega
    rw [F43.L3.succ,ite'_f (lt_f (by omega))]
   | succ m ih =>
    intro i n hm hn
    obtain ⟨n,rfl⟩:∃ j,n=j+1:=⟨n - 1,by omega⟩
    have hi':i < ds.length:=by omega
    have hgt:=List.getElem?_eq_getElem hi'
    obtain ⟨p1,p2,p3⟩:=hLg i
    have e:=(p3 _ hgt (k+1) (by omega)).1
    have hTl:=hlen i
    unfold ia da at e
    rw [F43.L3.succ,ite'_t (lt_t hi'),zbt,ite'_t (zn hi'),DD_0 hgt,zf,DD_1 hgt,zf,DD_2 hgt,zt,DD_3 hgt,zd,DD_4 hgt,zd]
    rw [show C (k+23) 84 [.agg [.d (.list 3 a),.d (.list 2 (A1 fs))],.agg [.d (.list 2 (A1 ds[i].body)),.d (.list 2 (A1 ds[i].head)),.d (.bool ds[i].egd),.d (.int .i64 ds[i].l),.d (.int .i64 ds[i].r)]]=some [(false,[.row 27 1 (LL (Lg i))])] from e]
    simp only [zi,zu,zf]
    rw [zx]
    have:=push (fun nn j acc=>F43.L6 (k+23) (C (k+23)) n nn (i:Int) (DD ds) (ds.length:Int) (i:Int) ((Lg i).length:Int) j a (A1 fs) acc (LL (Lg i))) (fun acc=>F43.L3 (k+23) (C (k+23)) n (DD ds) (ds.length:Int) ((i+1:Nat):Int) a (A1 fs) acc) (Lg i) (i:Int)
     (fun nn j acc b hb ha=>by
      have hj:=(List.getElem?_eq_some_iff.1 hb).1
      show F43.L6 _ _ _ (nn+1) _ _ _ _ _ _ _ _ _ _=_
      rw [F43.L6.succ,ite'_t (lt_t hj),zx,ite'_t (zn hj),zju hb,zf,ite'_t (zQ (by simp only [zo,List.length_cons,List.length_nil];omega)),zlW,A1_app',zz hj (m:=(Lg i).length) (by omega)])
     (fun nn acc=>by
      show F43.L6 _ _ _ (nn+1) _ _ _ _ _ _ _ _ _ _=_
      rw [F43.L6.succ,ite'_f (lt_f (by omega)),zz hi' (m:=ds.length) (by omega)])
     (Lg i).length 0 (k+23) (Tn Lg i) (by omega) (by omega) (by omega)
    rw [List.drop_zero,← zir] at this
    rw [show ((0:Nat):Int)=0 from rfl] at this
    exact this.trans (ih (i+1) n (by omega) (by omega))
  have L249:∀ (m i n:Nat),i+m=ds.length→m < n→F69.L3 (k+23) (C (k+23)) n (DD ds) (i:Int) a (A1 fs) (A1 (Tn Lg i))=some [(false,[.row 83 2 (A1 (Tn Lg ds.length))])]:=by
   intro m
   induction m with
   | zero =>
    intro i n hm hn
    obtain ⟨n,rfl⟩:∃ j,n=j+1:=⟨n - 1,by omega⟩
    obtain rfl:i=ds.length:=by omega
    rw [F69.L3.succ,zbt,ite'_f (lt_f (by omega))]
   | succ m ih =>
    intro i n hm hn
    obtain ⟨n,rfl⟩:∃ j,n=j+1:=⟨n - 1,by omega⟩
    have hi':i < ds.length:=by omega
    have hgt:=List.getElem?_eq_getElem hi'
    obtain ⟨p1,p2,p3⟩:=hLg i
    have e:=(p3 _ hgt (k+1) (by omega)).2
    have hTl:=hlen i
    unfold ia da at e
    rw [F69.L3.succ,zbt,ite'_t (lt_t hi'),ite'_t (zn hi'),DD_0 hgt,zf,DD_1 hgt,zf,DD_2 hgt,zt,DD_3 hgt,zd,DD_4 hgt,zd]
    rw [show C (k+23) 117 [.agg [.d (.list 3 a),.d (.list 2 (A1 fs))],.agg [.d (.list 2 (A1 ds[i].body)),.d (.list 2 (A1 ds[i].head)),.d (.bool ds[i].egd),.d (.int .i64 ds[i].l),.d (.int .i64 ds[i].r)]]=some [(false,[.row 27 1 (LL (Lg i))])] from e]
    simp only [zi,zu,zf]
    have:=push (fun nn j acc=>F69.L7 (k+23) (C (k+23)) n nn (DD ds) (i:Int) j a (A1 fs) acc (LL (Lg i))) (fun acc=>F69.L3 (k+23) (C (k+23)) n (DD ds) ((i+1:Nat):Int) a (A1 fs) acc) (Lg i) (i:Int)
     (fun nn j acc b hb ha=>by
      have hj:=(List.getElem?_eq_some_iff.1 hb).1
      show F69.L7 _ _ _ (nn+1) _ _ _ _ _ _ _=_
      rw [F69.L7.succ,zx,ite'_t (lt_t hj),ite'_t (zn hj),zju hb,zf,ite'_t (zQ (by simp only [zo,List.length_cons,List.length_nil];omega)),zlW,A1_app',zz hj (m:=(Lg i).length) (by omega)])
     (fun nn acc=>by
      show F69.L7 _ _ _ (nn+1) _ _ _ _ _ _ _=_
      rw [F69.L7.succ,zx,ite'_f (lt_f (by omega)),zz hi' (m:=ds.length) (by omega)])
     (Lg i).length 0 (k+23) (Tn Lg i) (by omega) (by omega) (by omega)
    rw [List.drop_zero,← zir] at this
    rw [show ((0:Nat):Int)=0 from rfl] at this
    exact this.trans (ih (i+1) n (by omega) (by omega))
  unfold ia
  rw [F43.run,F69.run,zbt]
  exact ⟨L251 ds.length 0 (k+23) (by omega) (by omega),L249 ds.length 0 (k+23) (by omega) (by omega)⟩
end Go.Proofs.YtiacahdabflcdaaGreat.Q
namespace Go.Proofs.YtiacahdabflcdaaGreat.Q
open Go Ovi
variable {k:Nat}
theorem SpB {r:Option Res} {a:Ovi.Rows} {fs:List Atom} {c:Int} {f:Ovi.Rows→Ovi.Rows→Int→Option Res} (h:Sp r a fs c):(za r fun r=>zc (resL 3 2 true 2 r 0 0) fun l=>zc (resL 2 2 true 2 r 0 1) fun m=>zg (resI .i64 2 false 1 r 1 0) fun n=>f l m n)=f a (A1 fs) c:=by
 obtain ⟨r',rfl,h1,h2,h3⟩:=h
 rw [zi,h1,zf,h2,zf,h3,zd]
def ChP (r:Option Res) (a:Ovi.Rows) (o:Option (List Atom × Int × List Atom)):Prop:=∃ r',r=some r'∧match o with
 | some (gs,c,st)=>resL 3 2 true 4 r' 0 0=some a∧resL 2 2 true 4 r' 0 1=some (A1 gs)∧resI .i64 2 true 4 r' 0 2=some c∧resL 2 2 true 4 r' 0 3=some (A1 st)∧resB 2 false 1 r' 1 0=some true
 | none=>resL 3 2 true 4 r' 0 0=some []∧resL 2 2 true 4 r' 0 1=some []∧resI .i64 2 true 4 r' 0 2=some 0∧resL 2 2 true 4 r' 0 3=some []∧resB 2 false 1 r' 1 0=some false
theorem ChP.d {a:Ovi.Rows} {gs st:List Atom} {c:Int}:ChP (some [(true,[.d (.list 3 a),.d (.list 2 (A1 gs)),.d (.int .i64 c),.row 83 2 (A1 st)]),(false,[.d (.bool true)])]) a (some (gs,c,st)) :=
 ⟨_,rfl,by simp [resL,zX,D.asL],by simp [resL,zX,D.asL],by simp [resI,zX,zy],rfl,rfl⟩
theorem ChP.w {a:Ovi.Rows} {gs st:List Atom} {c:Int}:ChP (some [(true,[.row 112 3 a,.row 114 2 (A1 gs),.d (.int .i64 c),.row 83 2 (A1 st)]),(false,[.d (.bool true)])]) a (some (gs,c,st)) :=
 ⟨_,rfl,rfl,rfl,by simp [resI,zX,zy],rfl,rfl⟩
theorem ChP.n {a:Ovi.Rows}:ChP (some [(true,[.nil,.nil,.d (.int .i64 0),.nil]),(false,[.d (.bool false)])]) a none:=⟨_,rfl,rfl,rfl,rfl,rfl,rfl⟩
theorem zpz {a:Ovi.Rows} {fs:List Atom} (hg:Gd a fs) (ds:List Dep) (hz:∀ d∈ds,Dsz d) (hl:ds.length≤1048576) :
  ∃ o,(∀ gs c st,o=some (gs,c,st)→Gd a gs)∧∀ k,3000000≤k→ChP (C (k+25) 12 [ia a fs,.d (.list 5 (DD ds)),.d (.list 0 [])]) a o∧ChP (C (k+25) 36 [ia a fs,.d (.list 5 (DD ds)),.d (.list 0 [])]) a o:=by
 have hmax:(1048576:Nat)≤maxLen:=by decide
 obtain ⟨ib,hi,_⟩:=hg.inst
 obtain ⟨db,hdb,hdk⟩:=deps hg.fit hg.hal ds hz hl
 have hok:=hi.ok
 have hok1:∀ k,2000000≤k→C (k+8) 40 [.agg [.d (.list 3 a),.d (.list 2 (A1 fs))]]=bo ib∧C (k+8) 58 [.agg [.d (.list 3 a),.d (.list 2 (A1 fs))]]=bo ib:=hok
 have hs:=hg.hs
 unfold ia
 by_cases hboth:ib=true∧db=true
 ·obtain ⟨rfl,rfl⟩:=hboth
  obtain ⟨hd5,hdY⟩:=hdb rfl
  have key:∀ (m i:Nat) (gs st:List Atom),i+m=60→Gd a gs→st.length≤i→∃ o,(∀ gs c st,o=some (gs,c,st)→Gd a gs)∧∀ k n,3000000≤k→m+1 < n→ChP (F9012.L5 (k+24) (C (k+24)) n (DD ds) [] (i:Int) 0 [] [] [] 1 a (A1 gs) (A1 st)) a o∧ChP (F9036.L5 (k+24) (C (k+24)) n (DD ds) [] (i:Int) 0 [] [] [] a (A1 gs) 0 (A1 st)) a o:=by
   intro m
   induction m with
   | zero =>
    intro i gs st hm hgs hst
    refine ⟨some (gs,3,st),fun gs' c' st' h=>(by cases h;exact hgs),fun k n hk hn=>?_⟩
    obtain ⟨n,rfl⟩:∃ j,n=j+1:=⟨n - 1,by omega⟩
    obtain rfl:i=60:=by omega
    rw [F9012.L5.succ,F9036.L5.succ,ite'_t (by decide),ite'_t (by decide),ite'_f (by decide)]
    exact ⟨ChP.w,ChP.d⟩
   | succ m ih =>
    intro i gs st hm hgs hst
    obtain ⟨ib',hi2,hv2⟩:=hgs.inst
    obtain ⟨T,hT1,hT2,hT⟩:=allT hgs hi2 ds hdY hz hd5
    by_cases hT0:T=[]
    ·subst hT0
     refine ⟨some (gs,1,st),fun gs' c' st' h=>(by cases h;exact hgs),fun k n hk hn=>?_⟩
     obtain ⟨n,rfl⟩:∃ j,n=j+1:=⟨n - 1,by omega⟩
     obtain ⟨e1,e2⟩:=hT k hk
     unfold ia at e1 e2
     rw [F9012.L5.succ,F9036.L5.succ,ite'_t (by decide),ite'_f (by simp;omega),ite'_t (decide_eq_true (show (i:Int) < 60 by omega)),e1,e2]
     simp only [zi,zu,zf]
     rw [ite'_t (show (((A1 ([]:List Atom)).length:Int)==0)=true from rfl),ite'_t (show (((A1 ([]:List Atom)).length:Int)==0)=true from rfl)]
     exact ⟨ChP.d,ChP.d⟩
    ·obtain ⟨x,r,rfl⟩:=List.exists_cons_of_ne_nil hT0
     obtain ⟨⟨hx0,hx1⟩,hx5,hxI⟩:=hT2 x List.mem_cons_self
     obtain ⟨q,hq⟩:∃ q:Nat,x.1=(q:Int):=⟨x.1.toNat,by omega⟩
     have hqd:q < ds.length:=by omega
     have hgd:=List.getElem?_eq_getElem hqd
     have hmd:=List.getElem_mem hqd
     have hget:(x::r)[0]? = some x:=rfl
     have hc0:zm .i64 (A1 (x::r)) 0 0=some (q:Int):=by rw [← hq];exact zaS (i:=0) hget
     have hc1:zq 1 (A1 (x::r)) 0 1=some (I1 x.2):=zaT (i:=0) hget
     have hin:inR (0:Int) (List.length (A1 (x::r)))=true:=by rw [zo];exact zn (i:=0) (by simp)
     have hne:(((A1 (x::r)).length:Int)==0)=false:=by rw [zo];simp;omega
     obtain ⟨vb,fs',c',hvc,hg',hap⟩:=zoo hgs hi2 hv2 (hdY _ hmd) (hz _ hmd) x.2 hxI (by omega)
     have hfit:fits (List.length (A1 st)+[[D.int IntKind.i64 (q:Int),D.list 1 (I1 x.2)]].length)=true:=zQ (by simp only [zo,List.length_cons,List.length_nil];omega)
     have hsn:A1 st++[[D.int IntKind.i64 (q:Int),D.list 1 (I1 x.2)]]=A1 (st++[x]):=by rw [← hq];simp [A1]
     have hnx:IntKind.i64.wrap ((i:Int)+1)=((i+1:Nat):Int):=zz (show i < 60 by omega) (m:=60) (by omega)
     have s1:∀ k n,3000000≤k→F9012.L5 (k+24) (C (k+24)) (n+1) (DD ds) [] (i:Int) 0 [] [] [] 1 a (A1 gs) (A1 st)=F9012.L5 (k+24) (C (k+24)) n (DD ds) [] ((i+1:Nat):Int) 0 [] [] [] c' a (A1 fs') (A1 (st++[x])):=by
      intro k n hk
      obtain ⟨e1,e2⟩:=hT k hk
      have e54:=(hap (k+3) (by omega)).2.1
      unfold ia da at *
      rw [F9012.L5.succ,ite'_t (by decide),ite'_f (by simp;omega),e1]
      simp only [zi,zu,zf]
      rw [ite'_f hne,ite'_f (show decide ((([]:List (List D)).length:Int) > (0:Int))=false from rfl),ite'_t hin,hc0,zd,hc1,zf,zbt,ite'_t (zn hqd),DD_0 hgd,zf,DD_1 hgd,zf,DD_2 hgd,zt,DD_3 hgd,zd,DD_4 hgd,zd]
      rw [show (C (k+24) 44 [.agg [.d (.list 3 a),.d (.list 2 (A1 gs))],.agg [.d (.list 2 (A1 ds[q].body)),.d (.list 2 (A1 ds[q].head)),.d (.bool ds[q].egd),.d (.int .i64 ds[q].l),.d (.int .i64 ds[q].r)],.d (.list 1 (I1 x.2))])=pr a fs' c' from e54,prB,ite'_t hfit,hsn,hnx]
     have s2:∀ k n,3000000≤k→F9036.L5 (k+24) (C (k+24)) (n+1) (DD ds) [] (i:Int) 0 [] [] [] a (A1 gs) 0 (A1 st)=ite' (c' != (1:Int)) (some [(true,[.d (.list 3 a),.d (.list 2 (A1 fs')),.d (.int .i64 c'),.row 83 2 (A1 (st++[x]))]),(false,[.d (.bool true)])]) (F9036.L5 (k+24) (C (k+24)) n (DD ds) [] ((i+1:Nat):Int) 0 [] [] [] a (A1 fs') 0 (A1 (st++[x]))):=by
      intro k n hk
      obtain ⟨e1,e2⟩:=hT k hk
      have e42:=(hap (k+3) (by omega)).2.2
      unfold ia da at *
      rw [F9036.L5.succ,ite'_t (decide_eq_true (show (i:Int) < 60 by omega)),e2]
      simp only [zi,zu,zf]
      rw [ite'_f hne,ite'_f (show decide ((([]:List (List D)).length:Int) > (0:Int))=false from rfl),ite'_t hin,hc0,zd,zbt,ite'_t (zn hqd),DD_0 hgd,zf,DD_1 hgd,zf,DD_2 hgd,zt,DD_3 hgd,zd,DD_4 hgd,zd,ite'_t hin,hc1,zf]
      rw [SpB (r:=C (k+24) 71 [.agg [.d (.list 3 a),.d (.list 2 (A1 gs))],.agg [.d (.list 2 (A1 ds[q].body)),.d (.list 2 (A1 ds[q].head)),.d (.bool ds[q].egd),.d (.int .i64 ds[q].l),.d (.int .i64 ds[q].r)],.d (.list 1 (I1 x.2))]) e42,ite'_t hin,zd,zf,ite'_t hfit,hsn,hnx]
     have hst':(st++[x]).length≤i+1:=by simp only [List.length_append,List.length_cons,List.length_nil];omega
     by_cases hc:c'=1
     ·subst hc
      obtain ⟨o,ho1,ho⟩:=ih (i+1) fs' (st++[x]) (by omega) hg' hst'
      refine ⟨o,ho1,fun k n hk hn=>?_⟩
      obtain ⟨n,rfl⟩:∃ j,n=j+1:=⟨n - 1,by omega⟩
      rw [s1 k n hk,s2 k n hk,ite'_f (by decide)]
      exact ho k n hk (by omega)
     ·refine ⟨some (fs',c',st++[x]),fun gs' c st' h=>(by cases h;exact hg'),fun k n hk hn=>?_⟩
      obtain ⟨n,rfl⟩:∃ j,n=j+1:=⟨n - 1,by omega⟩
      obtain ⟨n',hn'⟩:∃ j,n=j+1:=⟨n - 1,by omega⟩
      rw [s1 k n hk,s2 k n hk,ite'_t (by simpa using hc),hn',F9012.L5.succ,ite'_f (by simpa using hc)]
      exact ⟨ChP.w,ChP.d⟩
  obtain ⟨o,ho1,ho⟩:=key 60 0 fs [] (by omega) hg (by simp)
  refine ⟨o,ho1,fun k hk=>?_⟩
  obtain ⟨g1,g2⟩:=ho k (k+24) hk (by omega)
  rw [F9012.run,F9036.run,(hok1 (k+16) (by omega)).1,(hok1 (k+16) (by omega)).2,bB,bB,ite'_nt,ite'_nt,(hdk (k+8) (by omega)).1,(hdk (k+8) (by omega)).2,bB,bB,ite'_nt,ite'_nt,c42 (k:=k+20) hg.hal fs hg.fx (by omega) (by omega),c68 (k:=k+21) hg.hal fs hg.fx (by omega) (by omega),c42x,c42x]
  exact ⟨g1,g2⟩
 ·refine ⟨none,fun gs c st h=>(nomatch h),fun k hk=>?_⟩
  have h1:=hok1 (k+16) (by omega)
  have h2:=hdk (k+8) (by omega)
  rw [F9012.run,F9036.run,h1.1,h1.2,bB,bB]
  cases ib with
  | false=>exact ⟨ChP.n,ChP.n⟩
  | true =>
   rw [ite'_nt,ite'_nt,h2.1,h2.2,bB,bB]
   cases db with
   | false=>exact ⟨ChP.n,ChP.n⟩
   | true=>exact absurd ⟨rfl,rfl⟩ hboth
end Go.Proofs.YtiacahdabflcdaaGreat.Q
namespace Go.Proofs.YtiacahdabflcdaaGreat.Q
open Go Ovi
variable {k:Nat}
theorem l102 (ws:BL) (hws:ws.length≤27000) (hx:∀ x∈ws,x.length≤3) (hk:2000000≤k):F102.L4 k (C k) k (LL ws) 0 []=some [(false,[.row 27 1 (LL (grnd ws))])]:=by
 have hmax:(1048576:Nat)≤maxLen:=by decide
 have inner:∀ (i:Nat) (hi:i < ws.length) (acc:BL),acc.length≤i→∀ (m j n k4:Nat) (b:Bool),j+m=(ws[i]).length→m < n →
   F102.L8 k (C k) k4 n (LL ws) (i:Int) b (j:Int) (LL acc)=F102.L4 k (C k) k4 (LL ws) ((i+1:Nat):Int) (LL (if (b&&!((ws[i]).drop j).any Ovi.neg)=true then acc++[ws[i]] else acc)):=by
  intro i hi acc ha m
  have hg:=LL_c (List.getElem?_eq_getElem hi)
  have hl:=hx _ (List.getElem_mem hi)
  induction m with
  | zero =>
   intro j n k4 b hm hn
   obtain ⟨n,rfl⟩:∃ p,n=p+1:=⟨n - 1,by omega⟩
   obtain rfl:j=(ws[i]).length:=by omega
   rw [F102.L8.succ,zx,ite'_t (zn hi),hg,zf,zl,ite'_f (lt_f (by omega)),List.drop_length]
   cases b with
   | false =>
    rw [ite'_f rfl,zz hi (m:=ws.length) (by omega)]
    rfl
   | true =>
    rw [ite'_t rfl,ite'_t (zn hi),zf,ite'_t (zQ (by rw [zx];simp;omega)),zz hi (m:=ws.length) (by omega),zdb]
    rfl
  | succ m ih =>
   intro j n k4 b hm hn
   obtain ⟨n,rfl⟩:∃ p,n=p+1:=⟨n - 1,by omega⟩
   have hj:j < (ws[i]).length:=by omega
   rw [F102.L8.succ,zx,ite'_t (zn hi),hg,zf,zl,ite'_t (lt_t hj)]
   cases b with
   | false =>
    rw [ite'_f rfl,zz hj (m:=(ws[i]).length) (by omega)]
    exact ih (j+1) n k4 false (by omega) (by omega)
   | true =>
    rw [ite'_t rfl,ite'_t (zn hi),zf,zl,ite'_t (zn hj),I1_c (List.getElem?_eq_getElem hj),zd,zz hj (m:=(ws[i]).length) (by omega),ih (j+1) n k4 _ (by omega) (by omega)]
    congr 2
    rw [List.drop_eq_getElem_cons hj,List.any_cons]
    have:decide ((ws[i])[j] ≥ 0)=!Ovi.neg (ws[i])[j]:=by
     unfold Ovi.neg
     by_cases h:(ws[i])[j] < 0
     ·simp [h]
     ·simp [h];omega
    rw [this]
    cases Ovi.neg (ws[i])[j]<;>simp
 have main:∀ (m i n:Nat) (acc:BL),i+m=ws.length→m < n→acc.length≤i→F102.L4 k (C k) n (LL ws) (i:Int) (LL acc)=some [(false,[.row 27 1 (LL (acc++grnd (ws.drop i)))])]:=by
  intro m
  induction m with
  | zero =>
   intro i n acc hm hn ha
   obtain ⟨n,rfl⟩:∃ j,n=j+1:=⟨n - 1,by omega⟩
   obtain rfl:i=ws.length:=by omega
   rw [F102.L4.succ,zx,ite'_f (lt_f (by omega)),List.drop_length]
   simp [grnd]
  | succ m ih =>
   intro i n acc hm hn ha
   obtain ⟨n,rfl⟩:∃ j,n=j+1:=⟨n - 1,by omega⟩
   have hi:i < ws.length:=by omega
   have hl:=hx _ (List.getElem_mem hi)
   have:=inner i hi acc ha (ws[i]).length 0 k n true (by omega) (by omega)
   rw [show ((0:Nat):Int)=0 from rfl] at this
   rw [F102.L4.succ,zx,ite'_t (lt_t hi),this,List.drop_zero,List.drop_eq_getElem_cons hi]
   rw [ih (i+1) n _ (by omega) (by omega) (by
    split
    ·simp only [List.length_append,List.length_cons,List.length_nil];omega
    ·omega)]
   unfold grnd
   rw [List.filter_cons]
   cases h:(ws[i]).any Ovi.neg<;>simp [h]
 have:=main ws.length 0 k [] (by omega) (by omega) (Nat.zero_le _)
 rw [List.drop_zero,List.nil_append] at this
 exact this
theorem zmf {ws:BL} (h:Good3 ws):Good3 (grnd ws):=by
 have hm:∀ x,x∈grnd ws→x∈ws:=fun x hx=>(List.mem_filter.1 hx).1
 have hl:(grnd ws).length≤ws.length:=List.length_filter_le _ _
 exact ⟨List.Pairwise.filter _ h.ss,Nat.le_trans hl h.len,fun x hx=>h.short x (hm x hx),fun x hx=>h.int x (hm x hx)⟩
theorem e110 {ws:BL} (h:Good3 ws):C (k+1) 163 [.var 0 0,   .d (.int .i64 27),.d (.list 1 (LL ws))]=some [(false,[.frow 27 1 1 (LL (grnd ws))]),(true,[])]:=by
 rw [zcQ (p:=zeP 27) rfl]
 unfold zeP zbS
 simp only [zhb,Option.bind_some]
 have hl:=h.len
 rw [show (Nat.ble ws.length 1099511627776&&ws.all fun z=>Nat.ble z.length 1099511627776)=true by
  rw [Bool.and_eq_true,List.all_eq_true]
  exact ⟨Nat.ble_eq_true_of_le (by omega),fun z hz=>Nat.ble_eq_true_of_le (by have:=h.short z hz;omega)⟩]
 rfl
theorem zpD {a:Ovi.Rows} (ha:Fit Rl (.list 3 a)) (fs xs:List Atom) (q:List Int) (hI:∀ x∈fs,∀ z∈x.2,inI z) (hal:a.length≤1048576) (hfs:zC fs+fs.length≤1048576) (hs:zC xs+xs.length≤1048576) (hq:q.length≤1048576) :
  ∃ ws R1 R2,Good3 ws∧resL 1 1 false 1 R1 0 0=some (LL ws)∧resF 27 1 1 1 false 1 R2 0 0=some (LL ws)∧∀ k,2000000≤k→C (k+21) 102 [.agg [.d (.list 3 a),.d (.list 2 (A1 fs))],.agg [.d (.list 1 (I1 q)),.d (.list 2 (A1 xs))]]=some R1∧C (k+21) 110 [.agg [.d (.list 3 a),.d (.list 2 (A1 fs))],.agg [.d (.list 1 (I1 q)),.d (.list 2 (A1 xs))]]=some R2:=by
 obtain ⟨ws,R1,R2,hg,h1,h2,h3⟩:=zpB ha fs xs q hI hal hfs hs hq
 refine ⟨grnd ws,[(false,[.row 27 1 (LL (grnd ws))])],[(false,[.frow 27 1 1 (LL (grnd ws))])],zmf hg,rfl,rfl,fun k hk=>⟨?_,?_⟩⟩
 ·rw [F102.run,(h3 k hk).1,zi,h1,zf]
  exact l102 (k:=k+20) ws hg.len hg.short (by omega)
 ·rw [F110.run,(h3 k hk).2,zi,h2,zf,ite'_t (zdO ws),e110 (k:=k+19) hg,zi]
  rfl
end Go.Proofs.YtiacahdabflcdaaGreat.Q
namespace Go.Proofs.YtiacahdabflcdaaGreat.Q
open Go Ovi
variable {k:Nat}
theorem chB {r:Option Res} {a:Ovi.Rows} {o:Option (List Atom × Int × List Atom)} {f:Ovi.Rows→Ovi.Rows→Int→Ovi.Rows→Bool→Option Res} (h:ChP r a o):(za r fun r5=>zc (resL 3 2 true 4 r5 0 0) fun l6=>zc (resL 2 2 true 4 r5 0 1) fun l7=>zg (resI IntKind.i64 2 true 4 r5 0 2) fun n8=>zc (resL 2 2 true 4 r5 0 3) fun l9=>zj (resB 2 false 1 r5 1 0) fun b10=>f l6 l7 n8 l9 b10)=match o with
  | some (gs,c,st)=>f a (A1 gs) c (A1 st) true
  | none=>f [] [] 0 [] false:=by
 obtain ⟨r',rfl,h⟩:=h
 cases o with
 | none =>
  obtain ⟨h1,h2,h3,h4,h5⟩:=h
  simp only [zi,h1,zf,h2,h3,zd,h4,h5,zt]
 | some p =>
  obtain ⟨gs,c,st⟩:=p
  obtain ⟨h1,h2,h3,h4,h5⟩:=h
  simp only [zi,h1,zf,h2,h3,zd,h4,h5,zt]
theorem zoq {a:Ovi.Rows} {fs:List Atom} (hg:Gd a fs) (ds:List Dep) (hz:∀ d∈ds,Dsz d) (hl:ds.length≤1048576) :
  ∃ o,(∀ gs c st,o=some (gs,c,st)→Gd a gs)∧∀ k,3000000≤k→ChP (C (k+26) 23 [ia a fs,.d (.list 5 (DD ds))]) a o∧ChP (C (k+26) 22 [ia a fs,.d (.list 5 (DD ds))]) a o:=by
 obtain ⟨o,h1,h2⟩:=zpz hg ds hz hl
 refine ⟨o,h1,fun k hk=>?_⟩
 obtain ⟨g1,g2⟩:=h2 k hk
 unfold ia at *
 rw [F23.run,F22.run,chB g1,chB g2]
 cases o with
 | none=>exact ⟨⟨_,rfl,by simp [resL,zX,D.asL],by simp [resL,zX,D.asL],by simp [resI,zX,zy],by simp [resL,zX,D.asL],rfl⟩,⟨_,rfl,by simp [resL,zX,D.asL],by simp [resL,zX,D.asL],by simp [resI,zX,zy],by simp [resL,zX,D.asL],rfl⟩⟩
 | some p =>
  obtain ⟨gs,c,st⟩:=p
  exact ⟨⟨_,rfl,by simp [resL,zX,D.asL],by simp [resL,zX,D.asL],by simp [resI,zX,zy],by simp [resL,zX,D.asL],rfl⟩,⟨_,rfl,by simp [resL,zX,D.asL],by simp [resL,zX,D.asL],by simp [resI,zX,zy],by simp [resL,zX,D.asL],rfl⟩⟩
theorem zpa {a:Ovi.Rows} (ha:Fit Rl (.list 3 a)) (hal:a.length≤1048576) (xs:List Atom) (q:List Int) (hs:zC xs+xs.length≤1048576) (hq:q.length≤1048576) :
  ∃ b,∀ k,2000000≤k→C (k+10) 109 [.d (.list 3 a),.agg [.d (.list 1 (I1 q)),.d (.list 2 (A1 xs))]]=bo b∧C (k+10) 101 [.d (.list 3 a),.agg [.d (.list 1 (I1 q)),.d (.list 2 (A1 xs))]]=bo b:=by
 have hmax:(1048576:Nat)≤maxLen:=by decide
 obtain ⟨valid,h1,h2⟩:=zfg ha xs (fun x hx=>by have:=zab hx;omega)
 exact ⟨qOk valid xs q,fun k hk=>⟨c109 h2 hk hal hs hq,c101 h2 hk hal hs hq⟩⟩
theorem zpy {a:Ovi.Rows} {fs:List Atom} (hg:Gd a fs) (ds:List Dep) (hz:∀ d∈ds,Dsz d) (hl:ds.length≤1048576) (xs:List Atom) (q:List Int) (hs:zC xs+xs.length≤1048576) (hq:q.length≤1048576) :
  ∃ ws g R1 R2,Good3 ws∧resL 1 2 false 1 R1 0 0=some (LL ws)∧resB 2 false 1 R1 1 0=some g∧resF 27 1 1 2 false 1 R2 0 0=some (LL ws)∧resB 2 false 1 R2 1 0=some g ∧
   ∀ k,3000000≤k→C (k+27) 56 [ia a fs,.d (.list 5 (DD ds)),.agg [.d (.list 1 (I1 q)),.d (.list 2 (A1 xs))]]=some R1∧C (k+27) 61 [ia a fs,.d (.list 5 (DD ds)),.agg [.d (.list 1 (I1 q)),.d (.list 2 (A1 xs))]]=some R2:=by
 obtain ⟨o,ho,hc⟩:=zoq hg ds hz hl
 obtain ⟨vb,hv⟩:=zpa hg.fit hg.hal xs q hs hq
 have no:(∀ k,3000000≤k→C (k+27) 56 [ia a fs,.d (.list 5 (DD ds)),.agg [.d (.list 1 (I1 q)),.d (.list 2 (A1 xs))]]=some [(false,[RL.nil]),(false,[RL.d (D.bool false)])]∧C (k+27) 61 [ia a fs,.d (.list 5 (DD ds)),.agg [.d (.list 1 (I1 q)),.d (.list 2 (A1 xs))]]=some [(false,[RL.nil]),(false,[RL.d (D.bool false)])]) →
   ∃ ws g R1 R2,Good3 ws∧resL 1 2 false 1 R1 0 0=some (LL ws)∧resB 2 false 1 R1 1 0=some g∧resF 27 1 1 2 false 1 R2 0 0=some (LL ws)∧resB 2 false 1 R2 1 0=some g ∧
   ∀ k,3000000≤k→C (k+27) 56 [ia a fs,.d (.list 5 (DD ds)),.agg [.d (.list 1 (I1 q)),.d (.list 2 (A1 xs))]]=some R1∧C (k+27) 61 [ia a fs,.d (.list 5 (DD ds)),.agg [.d (.list 1 (I1 q)),.d (.list 2 (A1 xs))]]=some R2:=fun h =>
  ⟨[],false,_,_,zkd,rfl,rfl,rfl,rfl,h⟩
 cases o with
 | none =>
  refine no fun k hk=>?_
  obtain ⟨g1,g2⟩:=hc k hk
  unfold ia at *
  rw [F56.run,F61.run,chB g1,chB g2]
  exact ⟨rfl,rfl⟩
 | some p =>
  obtain ⟨gs,c,st⟩:=p
  have hgg:=ho gs c st rfl
  by_cases hc1:c=1
  ·subst hc1
   cases vb with
   | false =>
    refine no fun k hk=>?_
    obtain ⟨g1,g2⟩:=hc k hk
    obtain ⟨v1,v2⟩:=hv (k+16) (by omega)
    unfold ia at *
    rw [F56.run,F61.run,chB g1,chB g2]
    simp only []
    rw [ite'_f (show (!true)=false from rfl),ite'_f (show (!true)=false from rfl),ite'_f (show ((1:Int) != 1)=false from rfl),ite'_f (show ((1:Int) != 1)=false from rfl),v1,v2,bB,bB]
    exact ⟨rfl,rfl⟩
   | true =>
    have hgs:=hgg.hs
    obtain ⟨ws,R1,R2,hG,h1,h2,h3⟩:=zpD hgg.fit gs xs q hgg.hI hgg.hal (by omega) hs hq
    refine ⟨ws,true,[(false,[.d (.list 1 (LL ws))]),(false,[.d (.bool true)])],[(false,[.frow 27 1 1 (LL ws)]),(false,[.d (.bool true)])],hG,by simp [resL,zX,D.asL],rfl,rfl,rfl,fun k hk=>?_⟩
    obtain ⟨g1,g2⟩:=hc k hk
    obtain ⟨v1,v2⟩:=hv (k+16) (by omega)
    obtain ⟨w1,w2⟩:=h3 (k+5) (by omega)
    unfold ia at *
    rw [F56.run,F61.run,chB g1,chB g2]
    simp only []
    rw [ite'_f (show (!true)=false from rfl),ite'_f (show (!true)=false from rfl),ite'_f (show ((1:Int) != 1)=false from rfl),ite'_f (show ((1:Int) != 1)=false from rfl),v1,v2,bB,bB,ite'_nt,ite'_nt,w1,w2,zi,h1,zf,zi,h2,zf,ite'_t (zdO ws)]
    exact ⟨rfl,rfl⟩
  ·refine no fun k hk=>?_
   obtain ⟨g1,g2⟩:=hc k hk
   have hne:(c != (1:Int))=true:=by simpa using hc1
   unfold ia at *
   rw [F56.run,F61.run,chB g1,chB g2]
   simp only []
   rw [ite'_f (show (!true)=false from rfl),ite'_f (show (!true)=false from rfl),ite'_t hne,ite'_t hne]
   exact ⟨rfl,rfl⟩
end Go.Proofs.YtiacahdabflcdaaGreat.Q
namespace Go.Proofs.YtiacahdabflcdaaGreat.Q
open Go Ovi
variable {k:Nat}
theorem c57G (l:BL) (row:List Int) (hs:SSL l) (hl:l.length≤40000000000) (hx:∀ x∈l,x.length≤3) (hk:50000000000≤k) :
  ∃ r ws,C (k+2) 57 [.d (.list 1 (LL l)),.d (.list 1 (I1 row))]=some r∧resL 1 1 false 1 r 0 0=some (LL ws)∧(∀ z,z∈ws↔z∈l∨z=row)∧ws.length≤l.length+1∧SSL ws:=by
 have hmax:(50000000000:Nat)≤maxLen:=by decide
 rw [F57.run]
 have ins:∀ i:Nat,i≤l.length→row ∉ l→(∀ j y,j < i→l[j]? = some y→ltL y row=true)→(∀ y,l[i]? = some y→ltL y row=false)→∃ r ws,(ite' (inS (i:Int) ((LL l).length:Int) (LL l).length) (ite' (fits ([[D.list 1 (I1 row)]].length+(List.drop (i:Int).toNat (LL l)).length)) (ite' (inS (0:Int) (i:Int) (LL l).length) (ite' (fits (List.take (i:Int).toNat (LL l)).length) (ite' (fits ((List.take (i:Int).toNat (LL l)).length+List.length ([[D.list 1 (I1 row)]]++List.drop (i:Int).toNat (LL l)))) (some ([(false,[RL.row 27 1 (List.take (i:Int).toNat (LL l)++([[D.list 1 (I1 row)]]++List.drop (i:Int).toNat (LL l)))])])) (none)) (none)) (none)) (none)) (none))=some r∧resL 1 1 false 1 r 0 0=some (LL ws)∧(∀ z,z∈ws↔z∈l∨z=row)∧ws.length≤l.length+1∧SSL ws:=by
  intro i hi hnm hlt hge
  rw [Int.toNat_natCast,zx,ite'_t (by simp only [inS,decide_eq_true_eq];omega),ite'_t (zQ (by rw [List.length_drop,zx];simp;omega)),ite'_t (by simp only [inS,decide_eq_true_eq];omega),ite'_t (zQ (by rw [List.length_take,zx];omega)),ite'_t (zQ (by rw [List.length_take,List.length_append,List.length_drop,zx];simp;omega))]
  refine ⟨_,l.take i++(row::l.drop i),rfl,?_,fun z=>?_,?_,zll hs hnm hlt hge⟩
  ·rw [zh1]
   simp [LL]
  ·rw [List.mem_append,List.mem_cons]
   have:z∈l↔z∈l.take i∨z∈l.drop i:=by rw [← List.mem_append,List.take_append_drop]
   rw [this]
   constructor
   ·rintro (h | h | h)
    ·exact .inl (.inl h)
    ·exact .inr h
    ·exact .inl (.inr h)
   ·rintro ((h | h) | h)
    ·exact .inl h
    ·exact .inr (.inr h)
    ·exact .inr (.inl h)
  ·simp only [List.length_append,List.length_cons,List.length_take,List.length_drop];omega
 have nin:∀ i:Nat,i≤l.length→(∀ j y,j < i→l[j]? = some y→ltL y row=true)→(∀ y,l[i]? = some y→ltL row y=true)→row ∉ l:=by
  intro i hi h1 h2 hm
  obtain ⟨j,hj⟩:=List.mem_iff_getElem?.1 hm
  by_cases hji:j < i
  ·exact zdy (h1 j row hji hj) rfl
  ·have hjl:=(List.getElem?_eq_some_iff.1 hj).1
   have e:=(List.getElem?_eq_some_iff.1 hj).2
   have h3:=h2 l[i] (List.getElem?_eq_getElem (by omega))
   by_cases hij:i=j
   ·subst hij
    rw [e] at h3
    exact zdy h3 rfl
   ·have:=List.pairwise_iff_getElem.1 hs i j (by omega) hjl (by omega)
    rw [e] at this
    rw [zfP this] at h3
    cases h3
 have main:∀ (m i n:Nat),i+m=l.length→m < n→(∀ j y,j < i→l[j]? = some y→ltL y row=true)→∃ r ws,F57.L2 (k+1) (C (k+1)) n (LL l) (I1 row) (i:Int)=some r∧resL 1 1 false 1 r 0 0=some (LL ws)∧(∀ z,z∈ws↔z∈l∨z=row)∧ws.length≤l.length+1∧SSL ws:=by
  intro m
  induction m with
  | zero =>
   intro i n hm hn hlt
   obtain ⟨n,rfl⟩:∃ j,n=j+1:=⟨n - 1,by omega⟩
   obtain rfl:i=l.length:=by omega
   have hno:∀ y,l[l.length]? = some y→False:=fun y h=>by rw [List.getElem?_eq_none (Nat.le_refl _)] at h;cases h
   have h0:decide (((l.length:Nat):Int) < ((LL l).length:Int))=false:=by rw [zx];exact lt_f (by omega)
   rw [F57.L2.succ,h0,ite'_f rfl,ite'_f rfl]
   exact ins l.length (Nat.le_refl _) (nin l.length (Nat.le_refl _) hlt fun y h=>(hno y h).elim) hlt fun y h=>(hno y h).elim
  | succ m ih =>
   intro i n hm hn hlt
   obtain ⟨n,rfl⟩:∃ j,n=j+1:=⟨n - 1,by omega⟩
   have hi:i < l.length:=by omega
   have hg:=List.getElem?_eq_getElem hi
   have hxl:=hx _ (List.getElem_mem hi)
   have h0:decide ((i:Int) < ((LL l).length:Int))=true:=by rw [zx];exact lt_t hi
   have h1:inR (i:Int) (LL l).length=true:=by rw [zx];exact zn hi
   rw [F57.L2.succ,h0,ite'_t rfl,h1,ite'_t rfl,LL_c hg,zf,c103 (k:=k) l[i] row (by omega) (by omega),iB']
   by_cases hc:cmpI l[i] row < 0
   ·rw [ite'_t (by simpa using hc),zz hi (m:=l.length) (by omega)]
    refine ih (i+1) n (by omega) (by omega) fun j y hj hy=>?_
    by_cases hji:j=i
    ·subst hji
     rw [hg] at hy
     cases hy
     rw [zec] at hc
     exact decide_eq_true hc
    ·exact hlt j y (by omega) hy
   ·rw [ite'_f (by simpa using hc),ite'_t rfl,ite'_t rfl,zf,c103 (k:=k) l[i] row (by omega) (by omega),iB']
    by_cases he:cmpI l[i] row=0
    ·rw [ite'_t (by simpa using he)]
     refine ⟨_,l,rfl,zbB _ _,fun z=>?_,by omega,hs⟩
     constructor
     ·exact fun h=>.inl h
     ·rintro (h | rfl)
      ·exact h
      ·rw [← (zbh _ _).1 he];exact List.getElem_mem hi
    ·rw [ite'_f (by simpa using he)]
     have hge:ltL l[i] row=false:=by
      rw [zec] at hc
      exact decide_eq_false hc
     have hgt:ltL row l[i]=true:=by
      rcases zgo l[i] row with h | h | h
      ·rw [h] at hge;cases hge
      ·exact absurd ((zbh _ _).2 h) he
      ·exact h
     exact ins i (by omega) (nin i (by omega) hlt fun y hy=>by rw [hg] at hy;cases hy;exact hgt) hlt fun y hy=>by rw [hg] at hy;cases hy;exact hge
 exact main l.length 0 (k+1) (by omega) (by omega) (fun j y hj=>by omega)
noncomputable def ins (l:BL) (row:List Int):BL:=Lib.compact (zA (l++[row]))
theorem ins_mem {l:BL} {row z:List Int}:z∈ins l row↔z∈l∨z=row:=by
 unfold ins
 rw [zbz,zbM,List.mem_append,List.mem_singleton]
theorem zk8 (l:BL) (row:List Int):(ins l row).length≤l.length+1:=by
 unfold ins
 have:=zbx (zA (l++[row]))
 rw [zbg,List.length_append] at this
 simpa using this
theorem putU {l:BL} {row:List Int} (hs:SSL l) (hl:l.length≤40000000000) (hx:∀ x∈l,x.length≤3) (hk:50000000000≤k) {f:Ovi.Rows→Option Res} :
  (za (C (k+2) 57 [.d (.list 1 (LL l)),.d (.list 1 (I1 row))]) fun r=>zc (resL 1 1 false 1 r 0 0) f)=f (LL (ins l row)):=by
 obtain ⟨r,ws,e1,e2,e3,e4,e5⟩:=c57G (k:=k) l row hs hl hx hk
 have:ws=ins l row:=zie e5 (zbT _) fun z=>by rw [e3,← ins_mem]
 rw [e1,zi,e2,zf,this]
theorem zkc:∀ (ws S:BL),SSL S→SSL (ws.foldl ins S)∧(∀ z,z∈ws.foldl ins S↔z∈S∨z∈ws)∧(ws.foldl ins S).length≤S.length+ws.length
 | [],S,h=>⟨h,fun z=>by simp,by simp⟩
 | w::ws,S,h=>by
  obtain ⟨h1,h2,h3⟩:=zkc ws (ins S w) (zbT _)
  have:=zk8 S w
  refine ⟨h1,fun z=>?_,?_⟩
  ·rw [List.foldl_cons,h2,ins_mem,List.mem_cons,or_assoc]
  ·rw [List.foldl_cons,List.length_cons];omega
theorem zo9 {a:Ovi.Rows} {fs:List Atom} (hg:Gd a fs) (ds:List Dep) (hz:∀ d∈ds,Dsz d) (hl:ds.length≤1048576) (qs:List Qy) (hqs:∀ q∈qs,q.1.length≤1048576∧zC q.2+q.2.length≤1048576) (hql:qs.length≤1048576) :
  ∃ ws g R1 R2,(ws.length≤40000000000∧∀ x∈ws,x.length≤3∧∀ z∈x,inI z)∧resL 1 2 false 1 R1 0 0=some (LL ws)∧resB 2 false 1 R1 1 0=some g∧resF 27 1 1 2 false 1 R2 0 0=some (LL ws)∧resB 2 false 1 R2 1 0=some g ∧
   ∀ k,100000000000≤k→C (k+29) 25 [ia a fs,.d (.list 5 (DD ds)),.d (.list 2 (QQ qs))]=some R1∧C (k+29) 27 [ia a fs,.d (.list 5 (DD ds)),.d (.list 2 (QQ qs))]=some R2:=by
 have hmax:(40000000000:Nat)≤maxLen:=by decide
 obtain ⟨ib,hi,_⟩:=hg.inst
 obtain ⟨db,hdb,hdk⟩:=deps hg.fit hg.hal ds hz hl
 have hok:=hi.ok
 have hok1:∀ k,2000000≤k→C (k+8) 40 [.agg [.d (.list 3 a),.d (.list 2 (A1 fs))]]=bo ib∧C (k+8) 58 [.agg [.d (.list 3 a),.d (.list 2 (A1 fs))]]=bo ib:=hok
 have key:∀ (m i:Nat) (acc S:BL),i+m=qs.length→SSL S→(∀ z,z∈S↔z∈acc)→acc.length≤27000 * i→S.length≤27000 * i→(∀ x∈acc,x.length≤3∧∀ z∈x,inI z) →
   ∃ ws g R1 R2,(ws.length≤40000000000∧∀ x∈ws,x.length≤3∧∀ z∈x,inI z)∧resL 1 2 false 1 R1 0 0=some (LL ws)∧resB 2 false 1 R1 1 0=some g∧resF 27 1 1 2 false 1 R2 0 0=some (LL ws)∧resB 2 false 1 R2 1 0=some g ∧
    ∀ k n,100000000000≤k→m < n→F25.L3 (k+28) (C (k+28)) n (DD ds) (QQ qs) (LL S) (i:Int) a (A1 fs)=some R1∧F27.L3 (k+28) (C (k+28)) n (DD ds) (QQ qs) (qs.length:Int) (i:Int) a (A1 fs) (LL acc)=some R2:=by
  intro m
  induction m with
  | zero =>
   intro i acc S hm hs hmem hal hSl hx
   obtain rfl:i=qs.length:=by omega
   have hcs:Lib.compact (zA acc)=S:=zie (zbT _) hs fun z=>by rw [zbz,zbM,hmem]
   refine ⟨S,cond ib db false,[(false,[.d (.list 1 (LL S))]),(false,[.d (.bool (cond ib db false))])],[(false,[.frow 27 1 1 (LL S)]),(false,[.d (.bool (cond ib db false))])],⟨by omega,fun x h=>hx x ((hmem x).1 h)⟩,by simp [resL,zX,D.asL],by cases (cond ib db false)<;>rfl,rfl,by cases (cond ib db false)<;>rfl,fun k n hk hn=>?_⟩
   obtain ⟨n,rfl⟩:∃ j,n=j+1:=⟨n - 1,by omega⟩
   have e62:C (k+28) 62 [.var 0 0,.d (.int .i64 27),.d (.list 1 (LL acc))]=some [(false,[.frow 27 1 1 (LL S)]),(true,[])]:=by
    have hnd:=zjl acc
    rw [zcQ (p:=zbF) rfl]
    unfold zbF zbS
    simp only [zhb,Option.bind_some]
    rw [show (Nat.ble acc.length 1099511627776&&acc.all fun z=>Nat.ble z.length 1099511627776)=true by
     rw [Bool.and_eq_true,List.all_eq_true]
     exact ⟨Nat.ble_eq_true_of_le (by omega),fun z hz=>Nat.ble_eq_true_of_le (by have:=(hx z hz).1;omega)⟩]
    simp only [cond_true,Option.bind_some]
    rw [decide_eq_true hnd,hcs]
    rfl
   obtain ⟨o1,o2⟩:=hok1 (k+20) (by omega)
   obtain ⟨d1,d2⟩:=hdk (k+12) (by omega)
   constructor
   ·rw [F25.L3.succ,zd9,ite'_f (lt_f (by omega)),o2,bB]
    cases ib with
    | false=>rfl
    | true =>
     rw [ite'_t rfl,d2,bB]
     cases db<;>rfl
   ·rw [F27.L3.succ,ite'_f (lt_f (by omega)),e62,zi,show resF 27 1 0 2 false 1 [(false,[RL.frow 27 1 1 (LL S)]),(true,[])] 0 0=some (LL S) from rfl,zf,o1,bB]
    cases ib with
    | false=>rfl
    | true =>
     rw [ite'_t rfl,d1,bB]
     cases db<;>rfl
  | succ m ih =>
   intro i acc S hm hs hmem hal hSl hx
   have hi':i < qs.length:=by omega
   have hgt:=List.getElem?_eq_getElem hi'
   have hq:=hqs _ (List.getElem_mem hi')
   obtain ⟨ws,g,Q1,Q2,hG,q1,q2,q3,q4,hC⟩:=zpy hg ds hz hl qs[i].2 qs[i].1 hq.2 hq.1
   have hGl:=hG.len
   have b1:∀ k n,100000000000≤k→F25.L3 (k+28) (C (k+28)) (n+1) (DD ds) (QQ qs) (LL S) (i:Int) a (A1 fs)=ite' (!g) (some [(false,[RL.nil]),(false,[RL.d (D.bool false)])]) (F25.L9 (k+28) (C (k+28)) n (k+28) (DD ds) (QQ qs) (LL S) (i:Int) (LL ws) 0 a (A1 fs)):=by
    intro k n hk
    have e:=(hC (k+1) (by omega)).1
    unfold ia at e
    rw [F25.L3.succ,zd9,ite'_t (lt_t hi'),ite'_t (zn hi'),QQ_0 hgt,zf,QQ_1 hgt,zf]
    rw [show C (k+28) 56 [.agg [.d (.list 3 a),.d (.list 2 (A1 fs))],.d (.list 5 (DD ds)),.agg [.d (.list 1 (I1 qs[i].1)),.d (.list 2 (A1 qs[i].2))]]=some Q1 from e,zi,q1,zf,q2,zt]
   have b2:∀ k n,100000000000≤k→F27.L3 (k+28) (C (k+28)) (n+1) (DD ds) (QQ qs) (qs.length:Int) (i:Int) a (A1 fs) (LL acc)=ite' (!g) (some [(false,[RL.nil]),(false,[RL.d (D.bool false)])]) (F27.L3 (k+28) (C (k+28)) n (DD ds) (QQ qs) (qs.length:Int) ((i+1:Nat):Int) a (A1 fs) (LL (acc++ws))):=by
    intro k n hk
    have e:=(hC (k+1) (by omega)).2
    unfold ia at e
    rw [F27.L3.succ,ite'_t (lt_t hi'),zd9,ite'_t (zn hi'),QQ_0 hgt,zf,QQ_1 hgt,zf]
    rw [show C (k+28) 61 [.agg [.d (.list 3 a),.d (.list 2 (A1 fs))],.d (.list 5 (DD ds)),.agg [.d (.list 1 (I1 qs[i].1)),.d (.list 2 (A1 qs[i].2))]]=some Q2 from e,zi,q3,zf,ite'_t (zdO ws),q4,zt,zx,zx,ite'_t (zQ (by omega)),zz hi' (m:=qs.length) (by omega),zjM]
   cases g with
   | false =>
    refine ⟨[],false,[(false,[RL.nil]),(false,[RL.d (D.bool false)])],[(false,[RL.nil]),(false,[RL.d (D.bool false)])],⟨by simp,by simp⟩,rfl,rfl,rfl,rfl,fun k n hk hn=>?_⟩
    obtain ⟨n,rfl⟩:∃ j,n=j+1:=⟨n - 1,by omega⟩
    rw [b1 k n hk,b2 k n hk]
    exact ⟨rfl,rfl⟩
   | true =>
    obtain ⟨f1,f2,f3⟩:=zkc ws S hs
    have hxS:∀ x∈S,x.length≤3:=fun x h=>(hx x ((hmem x).1 h)).1
    have inner:∀ (m j:Nat) (S':BL),j+m=ws.length→SSL S'→S'.length≤30000000000+j→(∀ x∈S',x.length≤3)→∀ k n k3,100000000000≤k→m < n→F25.L9 (k+28) (C (k+28)) k3 n (DD ds) (QQ qs) (LL S') (i:Int) (LL ws) (j:Int) a (A1 fs)=F25.L3 (k+28) (C (k+28)) k3 (DD ds) (QQ qs) (LL ((ws.drop j).foldl ins S')) ((i+1:Nat):Int) a (A1 fs):=by
     intro m
     induction m with
     | zero =>
      intro j S' hj hs' hl' hx' k n k3 hk hn
      obtain ⟨n,rfl⟩:∃ p,n=p+1:=⟨n - 1,by omega⟩
      obtain rfl:j=ws.length:=by omega
      rw [F25.L9.succ,zx,ite'_f (lt_f (by omega)),List.drop_length,zz hi' (m:=qs.length) (by omega)]
      rfl
     | succ m ih2 =>
      intro j S' hj hs' hl' hx' k n k3 hk hn
      obtain ⟨n,rfl⟩:∃ p,n=p+1:=⟨n - 1,by omega⟩
      have hjl:j < ws.length:=by omega
      have hw:=List.getElem?_eq_getElem hjl
      have hin:=zk8 S' ws[j]
      rw [F25.L9.succ,zx,ite'_t (lt_t hjl),ite'_t (zn hjl),LL_c hw,zf,putU (k:=k+26) hs' (by omega) hx' (by omega),zz hjl (m:=ws.length) (by omega),ih2 (j+1) (ins S' ws[j]) (by omega) (zbT _) (by omega) (fun x h=>by
       rcases ins_mem.1 h with h | rfl
       ·exact hx' x h
       ·exact hG.short _ (List.getElem_mem hjl)) k n k3 hk (by omega),List.drop_eq_getElem_cons hjl,List.foldl_cons]
    obtain ⟨ws2,g2,R1,R2,t0,t1,t2,t3,t4,t5⟩:=ih (i+1) (acc++ws) (ws.foldl ins S) (by omega) f1 (fun z=>by rw [f2,hmem,List.mem_append]) (by rw [List.length_append];omega) (by omega) (fun x h=>by
     rcases List.mem_append.1 h with h | h
     ·exact hx x h
     ·exact ⟨hG.short x h,hG.int x h⟩)
    refine ⟨ws2,g2,R1,R2,t0,t1,t2,t3,t4,fun k n hk hn=>?_⟩
    obtain ⟨n,rfl⟩:∃ j,n=j+1:=⟨n - 1,by omega⟩
    have hin:=inner ws.length 0 S (by omega) hs (by omega) hxS k (k+28) n hk (by omega)
    rw [List.drop_zero,show ((0:Nat):Int)=0 from rfl] at hin
    rw [b1 k n hk,b2 k n hk,ite'_f (show (!true)=false from rfl),ite'_f (show (!true)=false from rfl),hin]
    exact t5 k n hk (by omega)
 obtain ⟨ws,g,R1,R2,t0,t1,t2,t3,t4,t5⟩:=key qs.length 0 [] [] (by omega) List.Pairwise.nil (by simp) (by simp) (by simp) (by simp)
 refine ⟨ws,g,R1,R2,t0,t1,t2,t3,t4,fun k hk=>?_⟩
 obtain ⟨g1,g2⟩:=t5 k (k+28) hk (by omega)
 unfold ia
 rw [F25.run,F27.run,zd9]
 exact ⟨g1,g2⟩
end Go.Proofs.YtiacahdabflcdaaGreat.Q

/-
Towards the law: a machine that runs the program's own code on plain data, its soundness, the library by its contracts, and what the functions compute: part 5. No condition.
-/
import Derived.Test.YthicohakeljdcaaGreatTd
import Derived.Test.YthicohakeljdcaaGreatProg
import Derived.Test.YthicohakeljdcaaGreatTc
import Derived.Shelf.RegionOpenPlain
import Derived.Deep.LoopGhost
import Derived.WalkKit
import Derived.KernelRfl
set_option linter.unusedVariables false
set_option linter.unusedSimpArgs false
namespace Go.Proofs.YthicohakeljdcaaGreat.Q
open Go Ovi
variable {k:Nat}
def isN (v:Int):Bool:=decide (-40≤v∧v ≤ -1)
def okV (v:Int):Bool:=decide (-40≤v∧v≤9)
def nn (v:Int):Option Res:=some [(false,[.d (.int .i64 (if isN v then -1 - v else 0))]),(false,[.d (.bool (isN v))])]
theorem nnB (v:Int) (f:Int→Bool→Option Res):(za (nn v) fun r=>zf (resI .i64 2 false 1 r 0 0) fun n=>zi (resB 2 false 1 r 1 0) fun b=>f n b)=f (if isN v then -1 - v else 0) (isN v):=rfl
theorem zgh {v:Int} (h:isN v=true) : -40≤v∧v ≤ -1:=of_decide_eq_true h
theorem zjr {v:Int} (h:isN v=false):¬ (-40≤v∧v ≤ -1):=of_decide_eq_false h
theorem znD {v:Int} (h:inI v):IntKind.i64.wrap (-1 - v) = -1 - v:=by unfold inI at h;exact zad (by omega) (by omega)
theorem c80 {v:Int} (h:inI v):C (k+2) 80 [.d (.int .i64 v)]=nn v:=by
 rw [F80.run]
 by_cases h0:v ≥ 0
 ·rw [ite'_t (by simpa using h0)]
  have:isN v=false:=decide_eq_false (by omega)
  simp [nn,this]
 ·rw [ite'_f (by simpa using h0),znD h,c68,bB]
  by_cases h1:isN v=true
  ·have:=zgh h1
   rw [decide_eq_true (by omega),ite'_nt]
   simp [nn,h1]
  ·have h1:isN v=false:=by simpa using h1
   have:=zjr h1
   rw [decide_eq_false (by omega),ite'_nf]
   simp [nn,h1]
theorem c82 {v:Int} (h:inI v):C (k+2) 82 [.d (.int .i64 v)]=nn v:=by
 rw [F82.run,znD h,c73,bB]
 by_cases h1:isN v=true
 ·have:=zgh h1
  rw [decide_eq_true (by omega),ite'_nt]
  simp [nn,h1]
 ·have h1:isN v=false:=by simpa using h1
  have:=zjr h1
  rw [decide_eq_false (by omega),ite'_nf]
  simp [nn,h1]
theorem c157 {v:Int} (h:inI v):C (k+3) 157 [.d (.int .i64 v)]=bo (okV v):=by
 rw [F157.run,c80 h,nnB]
 by_cases h1:isN v=true
 ·have:=zgh h1
  rw [ite'_t h1]
  exact zar (b:=true) (by rw [okV,decide_eq_true (by omega)])
 ·have h1:isN v=false:=by simpa using h1
  have:=zjr h1
  rw [ite'_f h1,c68,bB]
  refine zar ?_
  unfold okV
  rw [Bool.eq_iff_iff]
  simp only [decide_eq_true_eq]
  omega
theorem c165 (v:Int):C (k+2) 165 [.d (.int .i64 v)]=bo (okV v):=by
 rw [F165.run,c73,bB];rfl
def zag (zs:List Int):List Int:=Lib.compact (zN ((zs.filter isN).map fun v => -1 - v))
theorem zkd (zs:List Int):SS (zag zs):=ze9 _
theorem zck (zs:List Int) (n:Int):n∈zag zs↔∃ v∈zs,isN v=true∧n = -1 - v:=by
 unfold zag
 rw [zcI,zcu]
 simp only [List.mem_map,List.mem_filter]
 constructor
 ·rintro ⟨v,⟨h1,h2⟩,rfl⟩;exact ⟨v,h1,h2,rfl⟩
 ·rintro ⟨v,h1,h2,rfl⟩;exact ⟨v,⟨h1,h2⟩,rfl⟩
theorem zi0 (zs:List Int):(zag zs).length≤zs.length:=by
 unfold zag
 have h1:=zcG (zN ((zs.filter isN).map fun v => -1 - v))
 have h2:(zN ((zs.filter isN).map fun v => -1 - v)).length=(zs.filter isN).length:=by simp [zN]
 have h3:=List.length_filter_le isN zs
 omega
theorem c212 (zs:List Int) (hI:∀ z∈zs,inI z) (hk:zs.length < k) (hz:zs.length≤1048576):C (k+3) 212 [.d (.list 1 (I1 zs))]=some [(false,[.row 3 1 (I1 (zag zs))])]:=by
 rw [F212.run,zl]
 have hmax:(1048576:Nat)≤maxLen:=by decide
 have main:∀ (m i n:Nat),i+m=zs.length→m < n→F212.L3 (k+2) (C (k+2)) n (I1 zs) (zs.length:Int) (i:Int) (I1 (((zs.take i).filter isN).map fun v => -1 - v))=some [(false,[.row 3 1 (I1 (zag zs))])]:=by
  intro m
  induction m with
  | zero =>
   intro i n hm hn
   obtain ⟨n,rfl⟩:∃ j,n=j+1:=⟨n - 1,by omega⟩
   obtain rfl:i=zs.length:=by omega
   rw [List.take_length]
   have hf:=List.length_filter_le isN zs
   generalize hacc:(zs.filter isN).map (fun v => -1 - v)=acc
   have hal:acc.length≤zs.length:=by rw [← hacc];simpa using hf
   have e1:C (k+2) 215 [.var 0 0,.d (.int .i64 3),.d (.list 1 (I1 acc))]=some [(false,[.row 3 1 (I1 (zN acc))])]:=by
    show zcA _=_
    unfold zcA zbH
    simp only [zbe]
    rw [show Nat.ble acc.length 1099511627776=true from Nat.ble_eq_true_of_le (by omega)]
    rfl
   have hsl:(zN acc).length=acc.length:=by simp [zN]
   have e2:C (k+2) 216 [.var 0 0,.d (.int .i64 3),.d (.list 1 (I1 (zN acc)))]=some [(false,[.row 3 1 (I1 (Lib.compact (zN acc)))]),(true,[])]:=by
    show za8 _=_
    unfold za8 zbH
    simp only [zbe]
    rw [show Nat.ble (zN acc).length 1099511627776=true from Nat.ble_eq_true_of_le (by omega)]
    rfl
   rw [F212.L3.succ,ite'_f (lt_f (by omega)),e1]
   simp only [zj,zt,zh]
   rw [e2]
   unfold zag
   rw [hacc]
   rfl
  | succ m ih =>
   intro i n hm hn
   obtain ⟨n,rfl⟩:∃ j,n=j+1:=⟨n - 1,by omega⟩
   have hi:i < zs.length:=by omega
   have hx:=List.getElem?_eq_getElem hi
   have hft:=List.length_filter_le isN (zs.take i)
   rw [F212.L3.succ,zl,ite'_t (lt_t hi),ite'_t (zn hi)]
   simp only [Int.toNat_natCast,zG (I1_get' hx),List.getElem?_cons_zero,Option.bind_some,zx,ze]
   rw [c82 (hI _ (List.getElem_mem hi)),nnB,zy hi (m:=zs.length) (by omega)]
   have hstep:(zs.take (i+1)).filter isN=(zs.take i).filter isN++(if isN zs[i] then [zs[i]] else []):=by
    rw [List.take_succ_eq_append_getElem hi,List.filter_append]
    cases h:isN zs[i]<;>simp [h]
   have:=ih (i+1) n (by omega) (by omega)
   rw [hstep] at this
   cases h:isN zs[i] with
   | true =>
    rw [ite'_t rfl,ite'_t (zS (by simp [zl] at hft ⊢;omega))]
    rw [h] at this
    simp only [if_true,List.map_append,List.map_cons,List.map_nil] at this ⊢
    rw [← this]
    simp [I1]
   | false =>
    rw [ite'_f rfl]
    rw [h] at this
    simpa using this
 exact main zs.length 0 (k+2) (by omega) (by omega)
theorem zlf (zs:List Int) (v:Int) (hS:SS zs) (hk:zs.length < k) (hz:zs.length≤1048576):∃ r ws,C (k+1) 147 [.d (.list 1 (I1 zs)),.d (.int .i64 v)]=some r∧resL 1 1 false 1 r 0 0=some (I1 ws)∧(∀ z,z∈ws↔z∈zs∨z=v)∧ws.length≤zs.length+1∧SS ws:=by
 rw [F147.run]
 have hmax:(1048576:Nat)≤maxLen:=by decide
 have ins:∀ i:Nat,i≤zs.length→(∀ (j:Nat) y,j < i→zs[j]? = some y→y < v)→(∀ y,zs[i]? = some y→v < y)→∃ r ws,(ite' (inS (i:Int) ((I1 zs).length:Int) (I1 zs).length) (ite' (fits (([[D.int .i64 v]]:Ovi.Rows).length+((I1 zs).drop (i:Int).toNat).length)) (ite' (inS (0:Int) (i:Int) (I1 zs).length) (ite' (fits ((I1 zs).take (i:Int).toNat).length) (ite' (fits (((I1 zs).take (i:Int).toNat).length+List.length ([[D.int .i64 v]]++(I1 zs).drop (i:Int).toNat))) (some ([(false,[RL.row 3 1 ((I1 zs).take (i:Int).toNat++([[D.int .i64 v]]++(I1 zs).drop (i:Int).toNat))])]:Res)) none) none) none) none) none)=some r∧resL 1 1 false 1 r 0 0=some (I1 ws)∧(∀ z,z∈ws↔z∈zs∨z=v)∧ws.length≤zs.length+1∧SS ws:=by
  intro i hi hlt hgt
  rw [zl,ite'_t (by simp [inS];omega),ite'_t (zS (by simp [zl];omega)),ite'_t (by simp [inS];omega),ite'_t (zS (by simp [zl];omega)),ite'_t (zS (by simp [zl];omega))]
  refine ⟨_,zs.take i++v::zs.drop i,rfl,?_,fun z=>?_,by simp;omega,?_⟩
  ·rw [zkj]
   simp [I1]
  ·have:z∈zs↔z∈zs.take i∨z∈zs.drop i:=by rw [← List.mem_append,List.take_append_drop]
   rw [this,List.mem_append,List.mem_cons]
   constructor
   ·rintro (h | h | h)
    ·exact .inl (.inl h)
    ·exact .inr h
    ·exact .inl (.inr h)
   ·rintro ((h | h) | h)
    ·exact .inl h
    ·exact .inr (.inr h)
    ·exact .inr (.inl h)
  ·have hd:∀ y∈zs.drop i,v < y:=by
    intro y hy
    obtain ⟨j,hj⟩:=List.mem_iff_getElem?.1 hy
    rw [List.getElem?_drop] at hj
    have hil:i < zs.length:=by have:=(List.getElem?_eq_some_iff.1 hj).1;omega
    have h0:=hgt zs[i] (List.getElem?_eq_getElem hil)
    rcases Nat.eq_zero_or_pos j with rfl | hjp
    ·rw [Nat.add_zero,List.getElem?_eq_getElem hil] at hj;cases hj;exact h0
    ·obtain ⟨hjl,e⟩:=List.getElem?_eq_some_iff.1 hj
     have:=List.pairwise_iff_getElem.1 hS i (i+j) hil hjl (by omega)
     omega
   have ht:∀ y∈zs.take i,y < v:=by
    intro y hy
    obtain ⟨j,hj⟩:=List.mem_iff_getElem?.1 hy
    obtain ⟨hjl,e⟩:=List.getElem?_eq_some_iff.1 hj
    simp only [List.length_take] at hjl
    rw [List.getElem?_take_of_lt (by omega)] at hj
    exact hlt j y (by omega) hj
   refine List.pairwise_append.2 ⟨hS.sublist (List.take_sublist _ _),List.pairwise_cons.2 ⟨hd,hS.sublist (List.drop_sublist _ _)⟩,fun x hx y hy=>?_⟩
   have:=ht x hx
   rcases List.mem_cons.1 hy with rfl | hy
   ·exact this
   ·have:=hd y hy;omega
 have main:∀ (m i n:Nat),i+m=zs.length→m < n→(∀ (j:Nat) y,j < i→zs[j]? = some y→y < v)→∃ r ws,F147.L2 k (C k) n (I1 zs) v (i:Int)=some r∧resL 1 1 false 1 r 0 0=some (I1 ws)∧(∀ z,z∈ws↔z∈zs∨z=v)∧ws.length≤zs.length+1∧SS ws:=by
  intro m
  induction m with
  | zero =>
   intro i n hm hn hlt
   obtain ⟨n,rfl⟩:∃ j,n=j+1:=⟨n - 1,by omega⟩
   obtain ⟨r,ws,h1,h2⟩:=ins i (by omega) hlt (fun y hy=>by have:=(List.getElem?_eq_some_iff.1 hy).1;omega)
   refine ⟨r,ws,?_,h2⟩
   rw [F147.L2.succ]
   rw [ite'_f (b:=decide ((i:Int) < ((I1 zs).length:Int))) (by rw [zl];exact lt_f (by omega))]
   rw [ite'_f (b:=decide ((i:Int) < ((I1 zs).length:Int))) (by rw [zl];exact lt_f (by omega))]
   exact h1
  | succ m ih =>
   intro i n hm hn hlt0
   obtain ⟨n,rfl⟩:∃ j,n=j+1:=⟨n - 1,by omega⟩
   have hi:i < zs.length:=by omega
   have hx:=List.getElem?_eq_getElem hi
   rw [F147.L2.succ]
   rw [ite'_t (b:=decide ((i:Int) < ((I1 zs).length:Int))) (by rw [zl];exact lt_t hi)]
   rw [ite'_t (b:=inR (i:Int) (I1 zs).length) (by rw [zl];exact zn hi)]
   rw [show zm .i64 (I1 zs) (i:Int).toNat 0=some zs[i] by rw [Int.toNat_natCast,zG (I1_get' hx)];rfl]
   simp only [ze]
   by_cases hlt:zs[i] < v
   ·rw [ite'_t (by simpa using hlt),zy hi (m:=zs.length) (by omega)]
    refine ih (i+1) n (by omega) (by omega) (fun j y hj hy=>?_)
    by_cases hji:j=i
    ·subst hji;rw [hx] at hy;cases hy;exact hlt
    ·exact hlt0 j y (by omega) hy
   ·rw [ite'_f (b:=decide (zs[i] < v)) (by simpa using hlt)]
    rw [ite'_t (b:=decide ((i:Int) < ((I1 zs).length:Int))) (by rw [zl];exact lt_t hi)]
    rw [ite'_t (b:=inR (i:Int) (I1 zs).length) (by rw [zl];exact zn hi)]
    by_cases heq:zs[i]=v
    ·rw [ite'_t (b:=zs[i]==v) (by simpa using heq)]
     refine ⟨_,zs,rfl,zbI _ _,fun z=>⟨.inl,?_⟩,by omega,hS⟩
     rintro (h | h)
     ·exact h
     ·rw [h,← heq];exact List.getElem_mem hi
    ·rw [ite'_f (b:=zs[i]==v) (by simpa using heq)]
     obtain ⟨r,ws,h1,h2⟩:=ins i (by omega) hlt0 (fun y hy=>by rw [hx] at hy;cases hy;omega)
     exact ⟨r,ws,h1,h2⟩
 have:=main zs.length 0 k (by omega) (by omega) (fun j y hj=>by omega)
 exact this
theorem c145 (r:Int) (zs:List Int) (hI:∀ z∈zs,inI z) (hk:zs.length < k) (hz:zs.length≤1048576):C (k+3) 145 [.agg [.d (.int .i64 r),.d (.list 1 (I1 zs))]]=some [(false,[.d (.list 1 (I1 (zag zs)))])]:=by
 rw [F145.run]
 have hmax:(1048576:Nat)≤maxLen:=by decide
 have main:∀ (m i n:Nat) (acc:List Int),i+m=zs.length→m < n→SS acc→acc.length≤i→(∀ z,z∈acc↔∃ v∈zs.take i,isN v=true∧z = -1 - v)→F145.L3 (k+2) (C (k+2)) n (I1 acc) (i:Int) r (I1 zs)=some [(false,[.d (.list 1 (I1 (zag zs)))])]:=by
  intro m
  induction m with
  | zero =>
   intro i n acc hm hn hS hl hmem
   obtain ⟨n,rfl⟩:∃ j,n=j+1:=⟨n - 1,by omega⟩
   obtain rfl:i=zs.length:=by omega
   rw [List.take_length] at hmem
   rw [F145.L3.succ,zl,ite'_f (lt_f (by omega)),zh8 hS (zkd zs) (fun z=>by rw [hmem z,zck])]
  | succ m ih =>
   intro i n acc hm hn hS hl hmem
   obtain ⟨n,rfl⟩:∃ j,n=j+1:=⟨n - 1,by omega⟩
   have hi:i < zs.length:=by omega
   have hx:=List.getElem?_eq_getElem hi
   have htk:∀ z,z∈zs.take (i+1)↔z∈zs.take i∨z=zs[i]:=by
    intro z
    rw [List.take_succ_eq_append_getElem hi]
    simp only [List.mem_append,List.mem_singleton]
   rw [F145.L3.succ,zl,ite'_t (lt_t hi),ite'_t (zn hi)]
   simp only [Int.toNat_natCast,zG (I1_get' hx),List.getElem?_cons_zero,Option.bind_some,zx,ze]
   rw [c80 (hI _ (List.getElem_mem hi)),nnB,zy hi (m:=zs.length) (by omega)]
   cases h:isN zs[i] with
   | true =>
    obtain ⟨r',ws,e1,e2,e3,e4,e5⟩:=zlf (k:=k+1) acc (-1 - zs[i]) hS (by omega) (by omega)
    rw [ite'_t rfl]
    simp only [if_true]
    rw [e1]
    simp only [zj]
    rw [e2,zh]
    refine ih (i+1) n ws (by omega) (by omega) e5 (by omega) (fun z=>?_)
    rw [e3 z,hmem z]
    constructor
    ·rintro (⟨v,h1,h2⟩ | h1)
     ·exact ⟨v,(htk v).2 (.inl h1),h2⟩
     ·exact ⟨zs[i],(htk _).2 (.inr rfl),h,h1⟩
    ·rintro ⟨v,h1,h2⟩
     rcases (htk v).1 h1 with h1 | rfl
     ·exact .inl ⟨v,h1,h2⟩
     ·exact .inr h2.2
   | false =>
    rw [ite'_f rfl]
    refine ih (i+1) n acc (by omega) (by omega) hS (by omega) (fun z=>?_)
    rw [hmem z]
    constructor
    ·rintro ⟨v,h1,h2⟩
     exact ⟨v,(htk v).2 (.inl h1),h2⟩
    ·rintro ⟨v,h1,h2⟩
     rcases (htk v).1 h1 with h1 | rfl
     ·exact ⟨v,h1,h2⟩
     ·rw [h] at h2;cases h2.1
 exact main zs.length 0 (k+2) [] (by omega) (by omega) (by simp [SS]) (by simp) (fun z=>by simp)
theorem c174 (r:Int) (zs:List Int) (hI:∀ z∈zs,inI z) (hk:zs.length < k) (hz:zs.length≤1048576):C (k+4) 174 [.agg [.d (.int .i64 r),.d (.list 1 (I1 zs))]]=some [(false,[.row 3 1 (I1 (zag zs))])]:=by
 rw [F174.run,c212 zs hI hk hz]
 rfl
end Go.Proofs.YthicohakeljdcaaGreat.Q
namespace Go.Proofs.YthicohakeljdcaaGreat.Q
open Go Ovi
variable {k:Nat}
def cmpI:List Int→List Int→Int
 | [],[]=>0
 | [],_::_ => -1
 | _::_,[]=>1
 | x::xs,y::ys=>if x < y then -1 else if x > y then 1 else cmpI xs ys
def io (n:Int):Option Res:=some [(false,[.d (.int .i64 n)])]
theorem iB' (n:Int) (f:Int→Option Res):(za (io n) fun r=>zf (resI .i64 1 false 1 r 0 0) f)=f n:=rfl
def cmp1 (x y:Int):Int:=if x < y then -1 else if x > y then 1 else 0
theorem c225 (x y:Int):C (k+2) 225 [.d (.int .i64 x),.d (.int .i64 y)]=io (cmp1 x y):=by
 rw [F225.run,F266.run,F266.run]
 simp only [bne_self_eq_false,zj,zI,zu]
 rw [ite'_f rfl,ite'_f rfl]
 unfold cmp1
 by_cases h:x < y
 ·rw [ite'_t (by simpa using h),if_pos h];rfl
 ·rw [ite'_f (by simpa using h),if_neg h]
  by_cases h':x > y
  ·rw [ite'_t (by simpa using h'),if_pos h'];rfl
  ·rw [ite'_f (by simpa using h'),if_neg h'];rfl
theorem ziI {a b:List Int} {i:Nat} (ha:i < a.length) (hb:i < b.length):cmpI (a.drop i) (b.drop i)=if a[i] < b[i] then -1 else if a[i] > b[i] then 1 else cmpI (a.drop (i+1)) (b.drop (i+1)):=by
 rw [List.drop_eq_getElem_cons ha,List.drop_eq_getElem_cons hb]
 rfl
theorem c226 (a b:List Int) (hk:a.length < k) (ha:a.length≤maxLen):C (k+3) 226 [.d (.list 1 (I1 a)),.d (.list 1 (I1 b))]=io (cmpI a b):=by
 rw [F226.run,zl]
 have main:∀ (m i n:Nat),i+m=a.length→m < n→i≤b.length→F226.L2 (k+2) (C (k+2)) n (I1 a) (I1 b) (I1 a) (a.length:Int) (i:Int)=io (cmpI (a.drop i) (b.drop i)):=by
  intro m
  induction m with
  | zero =>
   intro i n hm hn hb
   obtain ⟨n,rfl⟩:∃ j,n=j+1:=⟨n - 1,by omega⟩
   obtain rfl:i=a.length:=by omega
   rw [F226.L2.succ,ite'_f (lt_f (by omega)),zl,zl,List.drop_eq_nil_of_le (Nat.le_refl _)]
   by_cases h:a.length < b.length
   ·rw [ite'_t (lt_t h),List.drop_eq_getElem_cons h];rfl
   ·rw [ite'_f (lt_f h),List.drop_eq_nil_of_le (by omega)];rfl
  | succ m ih =>
   intro i n hm hn hb
   obtain ⟨n,rfl⟩:∃ j,n=j+1:=⟨n - 1,by omega⟩
   have hi:i < a.length:=by omega
   have hx:=List.getElem?_eq_getElem hi
   rw [F226.L2.succ,ite'_t (lt_t hi),zl,ite'_t (zn hi)]
   simp only [Int.toNat_natCast,zG (I1_get' hx),List.getElem?_cons_zero,Option.bind_some,zx,ze]
   rw [zl]
   by_cases h:i < b.length
   ·have hy:=List.getElem?_eq_getElem h
    rw [ite'_f (b:=decide ((i:Int) ≥ (b.length:Int))) (by simp;omega),ite'_t (zn h)]
    simp only [zG (I1_get' hy),List.getElem?_cons_zero,Option.bind_some,zx,ze]
    rw [c225,iB',ziI hi h,zy hi ha,ih (i+1) n (by omega) (by omega) (by omega)]
    unfold cmp1
    by_cases h1:a[i] < b[i]
    ·rw [if_pos h1,if_pos h1];rfl
    ·rw [if_neg h1,if_neg h1]
     by_cases h2:a[i] > b[i]
     ·rw [if_pos h2,if_pos h2];rfl
     ·rw [if_neg h2,if_neg h2];rfl
   ·rw [ite'_t (b:=decide ((i:Int) ≥ (b.length:Int))) (by simp;omega),List.drop_eq_getElem_cons hi,show b.drop i=[] from List.drop_eq_nil_of_le (by omega)]
    rfl
 exact main a.length 0 (k+2) (by omega) (by omega) (by omega)
theorem c179 (a b:List Int) (hk:a.length < k) (ha:a.length≤maxLen):C (k+1) 179 [.d (.list 1 (I1 a)),.d (.list 1 (I1 b))]=io (cmpI a b):=by
 rw [F179.run]
 have fin:∀ (i n:Nat),i≤a.length→i≤b.length→(¬ i < a.length∨¬ i < b.length)→F179.L2 k (C k) (n+1) (I1 a) (I1 b) (i:Int)=io (cmpI (a.drop i) (b.drop i)):=by
  intro i n h1 h2 h3
  have e:F179.L2 k (C k) (n+1) (I1 a) (I1 b) (i:Int)=ite' (decide ((a.length:Int) < (b.length:Int))) (io (-1)) (ite' (decide ((a.length:Int) > (b.length:Int))) (io 1) (io 0)):=by
   rw [F179.L2.succ,zl,zl]
   by_cases hi:i < a.length
   ·rw [ite'_t (lt_t hi),ite'_f (lt_f (by omega))];rfl
   ·rw [ite'_f (lt_f hi)];rfl
  rw [e]
  rcases Nat.lt_trichotomy a.length b.length with h | h | h
  ·obtain rfl:i=a.length:=by omega
   rw [ite'_t (by simp;omega),List.drop_eq_nil_of_le (Nat.le_refl _),List.drop_eq_getElem_cons h]
   rfl
  ·rw [ite'_f (by simp;omega),ite'_f (by simp;omega),List.drop_eq_nil_of_le (by omega),List.drop_eq_nil_of_le (by omega)]
   rfl
  ·obtain rfl:i=b.length:=by omega
   rw [ite'_f (by simp;omega),ite'_t (by simp;omega),List.drop_eq_nil_of_le (Nat.le_refl _),List.drop_eq_getElem_cons h]
   rfl
 have main:∀ (m i n:Nat),i+m=a.length→m < n→i≤b.length→F179.L2 k (C k) n (I1 a) (I1 b) (i:Int)=io (cmpI (a.drop i) (b.drop i)):=by
  intro m
  induction m with
  | zero =>
   intro i n hm hn hb
   obtain ⟨n,rfl⟩:∃ j,n=j+1:=⟨n - 1,by omega⟩
   exact fin i n (by omega) hb (by omega)
  | succ m ih =>
   intro i n hm hn hb
   obtain ⟨n,rfl⟩:∃ j,n=j+1:=⟨n - 1,by omega⟩
   by_cases h:i < b.length
   ·have hi:i < a.length:=by omega
    have hx:=List.getElem?_eq_getElem hi
    have hy:=List.getElem?_eq_getElem h
    rw [F179.L2.succ,zl,zl,ite'_t (lt_t hi),ite'_t (lt_t h),ite'_t (zn hi)]
    simp only [Int.toNat_natCast,zG (I1_get' hx),zG (I1_get' hy),List.getElem?_cons_zero,Option.bind_some,zx,ze]
    rw [ite'_t (zn h),ite'_t (zn hi),ite'_t (zn h),zy hi ha,ih (i+1) n (by omega) (by omega) (by omega),ziI hi h]
    by_cases h1:a[i] < b[i]
    ·rw [ite'_t (by simpa using h1),if_pos h1];rfl
    ·rw [ite'_f (by simpa using h1),if_neg h1]
     by_cases h2:a[i] > b[i]
     ·rw [ite'_t (by simpa using h2),if_pos h2];rfl
     ·rw [ite'_f (by simpa using h2),if_neg h2]
   ·exact fin i n (by omega) hb (by omega)
 exact main a.length 0 k (by omega) hk (by omega)
def cmpF (x y:Atom):Int:=if x.1 < y.1 then -1 else if x.1 > y.1 then 1 else cmpI x.2 y.2
theorem c144 (x y:Atom) (hk:x.2.length < k) (ha:x.2.length≤maxLen):C (k+2) 144 [.agg [.d (.int .i64 x.1),.d (.list 1 (I1 x.2))],.agg [.d (.int .i64 y.1),.d (.list 1 (I1 y.2))]]=io (cmpF x y):=by
 rw [F144.run,c179 x.2 y.2 hk ha,iB']
 unfold cmpF
 by_cases h1:x.1 < y.1
 ·rw [ite'_t (by simpa using h1),if_pos h1];rfl
 ·rw [ite'_f (by simpa using h1),if_neg h1]
  by_cases h2:x.1 > y.1
  ·rw [ite'_t (by simpa using h2),if_pos h2];rfl
  ·rw [ite'_f (by simpa using h2),if_neg h2];rfl
theorem c224 (x y:Int):C (k+4) 224 [.d (.list 1 [[.int .i64 x],[.int .i64 y]])]=io (if x=0 then y else x):=by
 rw [F224.run]
 have s0:∀ n,F224.L3 (k+3) (C (k+3)) (n+1) 0 [[.int .i64 x],[.int .i64 y]] 2 0=ite' (x != 0) (io x) (F224.L3 (k+3) (C (k+3)) n 0 [[.int .i64 x],[.int .i64 y]] 2 1):=fun n=>by rw [F224.L3.succ];rfl
 have s1:∀ n,F224.L3 (k+3) (C (k+3)) (n+1) 0 [[.int .i64 x],[.int .i64 y]] 2 1=ite' (y != 0) (io y) (F224.L3 (k+3) (C (k+3)) n 0 [[.int .i64 x],[.int .i64 y]] 2 2):=fun n=>by rw [F224.L3.succ];rfl
 have s2:∀ n,F224.L3 (k+3) (C (k+3)) (n+1) 0 [[.int .i64 x],[.int .i64 y]] 2 2=io 0:=fun n=>by rw [F224.L3.succ];rfl
 show F224.L3 (k+3) (C (k+3)) (k+2+1) 0 [[.int .i64 x],[.int .i64 y]] 2 0=_
 rw [s0,s1,s2]
 by_cases h:x=0
 ·rw [if_pos h,ite'_f (by simpa using h)]
  by_cases h':y=0
  ·rw [ite'_f (by simpa using h'),h']
  ·rw [ite'_t (by simpa using h')]
 ·rw [if_neg h,ite'_t (by simpa using h)]
theorem c169 (x y:Atom) (hk:x.2.length < k) (ha:x.2.length≤maxLen):C (k+5) 169 [.agg [.d (.int .i64 x.1),.d (.list 1 (I1 x.2))],.agg [.d (.int .i64 y.1),.d (.list 1 (I1 y.2))]]=io (cmpF x y):=by
 rw [F169.run,c225,iB',c226 (k:=k+1) x.2 y.2 (by omega) ha,iB',c224,iB']
 unfold cmpF cmp1
 by_cases h1:x.1 < y.1
 ·rw [if_pos h1,if_pos h1];rfl
 ·rw [if_neg h1,if_neg h1]
  by_cases h2:x.1 > y.1
  ·rw [if_pos h2,if_pos h2];rfl
  ·rw [if_neg h2,if_neg h2];rfl
def zk9 (a:Ovi.Rows) (x:Atom) (b:Bool):Prop:=(b=true→(0≤x.1∧x.1 < (a.length:Int))∧(x.2.length:Int)=ar a x.1)∧∀ k,a.length < k→x.2.length < k→C (k+6) 173 [.d (.list 3 a),.agg [.d (.int .i64 x.1),.d (.list 1 (I1 x.2))]]=bo b∧C (k+6) 143 [.d (.list 3 a),.agg [.d (.int .i64 x.1),.d (.list 1 (I1 x.2))]]=bo b
theorem zpM {a:Ovi.Rows} (ha:Fit Rl (.list 3 a)) (x:Atom) (hI:∀ z∈x.2,inI z) (hx2:x.2.length≤maxLen):∃ b,zk9 a x b:=by
 have hlen:=ha.len
 unfold maxLen at hlen
 obtain ⟨b,hb⟩:=rels ha
 have e:∀ k,a.length < k→C (k+5) 172 [.d (.list 3 a)]=bo b∧C (k+5) 146 [.d (.list 3 a)]=bo b:=fun k hk=>hb (k+2) (by omega)
 cases b with
 | false =>
  refine ⟨false,fun h=>(by cases h),fun k hk hx=>?_⟩
  rw [F173.run,F143.run,(e k hk).1,(e k hk).2,bB,bB]
  exact ⟨rfl,rfl⟩
 | true =>
  by_cases hr:0≤x.1∧x.1≤(a.length:Int) - 1
  ·obtain ⟨i,hi⟩:∃ i:Nat,x.1=i:=⟨x.1.toNat,by omega⟩
   have hia:i < a.length:=by omega
   obtain ⟨row,hrow,hfr,_⟩:=ha.row hia
   obtain ⟨d0,r0,rfl,f0,h1⟩:=Fits.cons hfr
   obtain ⟨d1,r1,rfl,f1,h1⟩:=Fits.cons h1
   obtain ⟨n,rfl,_⟩:=f1.int
   have hcn:zm .i64 a ((i:Int)).toNat 1=some n:=by rw [Int.toNat_natCast,zG hrow];simp [zx]
   by_cases hn:((I1 x.2).length:Int)=n
   ·refine ⟨!(x.2.any fun t=>!okV t),fun _=>⟨by omega,by unfold ar;rw [hi,hcn];rw [zl] at hn;exact hn⟩,fun k hk hx=>?_⟩
    rw [F173.run,F143.run,(e k hk).1,(e k hk).2,bB,bB,ite'_nt,ite'_nt,c73,c68,bB,bB,zad (by omega) (by omega),decide_eq_true hr,ite'_nt,ite'_nt,hi,ite'_t (zn hia),ite'_t (zn hia),hcn]
    simp only [ze]
    rw [ite'_f (by simpa using hn),ite'_f (b:=((I1 x.2).length:Int) != n) (by simpa using hn)]
    have e69:=c163 (k:=k+3) x.2 228 [] (fun t=>!okV t) (by omega) hx2 (fun z _=>by
     rw [List.map_nil,F228.run,c165,bB];rfl)
    rw [e69,bB]
    refine ⟨rfl,?_⟩
    have:=zbc (xs:=x.2) (L:=fun m j=>F143.L4 (k+5) (C (k+5)) m j (i:Int) (I1 x.2)) (stop:=fun t=>!okV t) (hit:=bo false) (fin:=bo true)
     (fun m j t ht=>by
      have hj:=(List.getElem?_eq_some_iff.1 ht).1
      rw [F143.L4.succ,zl,ite'_t (lt_t hj),ite'_t (zn hj)]
      simp only [Int.toNat_natCast,zG (I1_get' ht),List.getElem?_cons_zero,Option.bind_some,zx,ze]
      rw [c157 (hI t (List.mem_of_getElem? ht)),bB,zy hj hx2];rfl)
     (fun m=>by rw [F143.L4.succ,zl,ite'_f (lt_f (by omega))];rfl) (k+5) (by omega)
    rw [show F143.L4 (k+5) (C (k+5)) (k+5) 0 (i:Int) (I1 x.2)=_ from this]
    cases x.2.any (fun t=>!okV t)<;>rfl
   ·refine ⟨false,fun h=>(by cases h),fun k hk hx=>?_⟩
    rw [F173.run,F143.run,(e k hk).1,(e k hk).2,bB,bB,ite'_nt,ite'_nt,c73,c68,bB,bB,zad (by omega) (by omega),decide_eq_true hr,ite'_nt,ite'_nt,hi,ite'_t (zn hia),ite'_t (zn hia),hcn]
    simp only [ze]
    rw [ite'_t (by simpa using hn),ite'_t (b:=((I1 x.2).length:Int) != n) (by simpa using hn)]
    exact ⟨rfl,rfl⟩
  ·refine ⟨false,fun h=>(by cases h),fun k hk hx=>?_⟩
   rw [F173.run,F143.run,(e k hk).1,(e k hk).2,bB,bB,ite'_nt,ite'_nt,c73,c68,bB,bB,zad (by omega) (by omega),decide_eq_false hr]
   exact ⟨rfl,rfl⟩
def src (a:Ovi.Rows) (x:Atom):Bool:=match a[x.1.toNat]? with
 | some [_,_,.bool b]=>b
 | _=>false
theorem zhg {a:Ovi.Rows} (ha:Fit Rl (.list 3 a)) {x:Atom} (h:0≤x.1∧x.1 < (a.length:Int)):inR x.1 a.length=true∧zam a x.1.toNat 2=some (src a x):=by
 obtain ⟨i,hi⟩:∃ i:Nat,x.1=i:=⟨x.1.toNat,by omega⟩
 have hia:i < a.length:=by omega
 obtain ⟨row,hrow,hfr,_⟩:=ha.row hia
 obtain ⟨d0,r0,rfl,f0,h1⟩:=Fits.cons hfr
 obtain ⟨d1,r1,rfl,f1,h1⟩:=Fits.cons h1
 obtain ⟨d2,r2,rfl,f2,h1⟩:=Fits.cons h1
 obtain rfl:=Fits.nil h1
 obtain ⟨b,rfl⟩:=f2.bool
 rw [hi]
 refine ⟨zn hia,?_⟩
 rw [Int.toNat_natCast,zaq hrow]
 unfold src
 rw [hi,Int.toNat_natCast,hrow]
 rfl
theorem zmb {a:Ovi.Rows} (ha:Fit Rl (.list 3 a)) (xs:List Atom) (hI:∀ x∈xs,∀ z∈x.2,inI z) (hs:zF xs+xs.length≤1048576) (hal:a.length≤1048576):∃ b,(b=true→(xs.length≤30∧∀ x∈xs,(0≤x.1∧x.1 < (a.length:Int))∧(x.2.length:Int)=ar a x.1)∧(∀ x∈xs,x.2.length≤3)∧(∀ (i:Nat) x y,xs[i]? = some x→xs[i+1]? = some y→cmpF x y < 0)∧∀ r:Int,0≤r→r < (a.length:Int)→ar a r≤3)∧∀ k,2000000≤k→C (k+8) 100 [.agg [.d (.list 3 a),.d (.list 2 (A1 xs))]]=bo b∧C (k+8) 67 [.agg [.d (.list 3 a),.d (.list 2 (A1 xs))]]=bo b:=by
 have hmax:(1048576:Nat)≤maxLen:=by decide
 have hl:∀ x∈xs,x.2.length≤1048576:=fun x hx=>by have:=zaa hx;omega
 obtain ⟨vf,hvf⟩:∃ vf:Atom→Bool,∀ x∈xs,zk9 a x (vf x):=by
  have:∀ x:Atom,∃ b,x∈xs→zk9 a x b:=by
   intro x
   by_cases h:x∈xs
   ·obtain ⟨b,hb⟩:=zpM ha x (hI x h) (by have:=hl x h;omega)
    exact ⟨b,fun _=>hb⟩
   ·exact ⟨false,fun h'=>absurd h' h⟩
  obtain ⟨vf,hv⟩:=Classical.axiomOfChoice this
  exact ⟨vf,fun x hx=>hv x hx⟩
 obtain ⟨rb,hr3,hrb⟩:=znA ha
 let bad:Nat→Atom→Bool:=fun i x=>!vf x||((decide (i > 0)&&decide (cmpF (xs.getD (i - 1) x) x ≥ 0))||(src a x&&decide ((zag x.2).length > 0)))
 have key:∃ st:Bool,(st=false→(∀ x∈xs,vf x=true)∧∀ (i:Nat) x y,xs[i]? = some x→xs[i+1]? = some y→cmpF x y < 0)∧∀ k,2000000≤k→F100.L4 (k+7) (C (k+7)) (k+7) (A1 xs) (xs.length:Int) 0 a (A1 xs)=bo (!st)∧F67.L2 (k+7) (C (k+7)) (k+7) 0 a (A1 xs)=cond st (bo false) (bo (rb&&decide ((xs.length:Int)≤30))):=by
  have s78:∀ k,2000000≤k→∀ (n i:Nat) x,xs[i]? = some x→F100.L4 (k+7) (C (k+7)) (n+1) (A1 xs) (xs.length:Int) (i:Int) a (A1 xs)=cond (bad i x) (bo false) (F100.L4 (k+7) (C (k+7)) n (A1 xs) (xs.length:Int) ((i+1:Nat):Int) a (A1 xs)) ∧
    F67.L2 (k+7) (C (k+7)) (n+1) (i:Int) a (A1 xs)=cond (bad i x) (bo false) (F67.L2 (k+7) (C (k+7)) n ((i+1:Nat):Int) a (A1 xs)):=by
   intro k hk n i x hx
   have hi:=(List.getElem?_eq_some_iff.1 hx).1
   have hxm:=List.mem_of_getElem? hx
   have hxl:=hl x hxm
   obtain ⟨hv1,hv2⟩:=hvf x hxm
   obtain ⟨e1,e2⟩:=hv2 (k+1) (by omega) (by omega)
   have hc0:zm .i64 (A1 xs) (i:Int).toNat 0=some x.1:=by rw [Int.toNat_natCast,zG (zaF hx)];simp [zx]
   have hc1:zr 1 (A1 xs) (i:Int).toNat 1=some (I1 x.2):=by rw [Int.toNat_natCast,zZ (zaF hx)];simp [zL]
   rw [F100.L4.succ,F67.L2.succ,zo,ite'_t (lt_t hi),ite'_t (zn hi),ite'_t (lt_t hi),ite'_t (zn hi),hc0,hc1]
   simp only [ze,zh]
   rw [e1,e2,bB,bB,zy hi (m:=xs.length) (by omega)]
   cases hvx:vf x with
   | false =>
    have hb:bad i x=true:=by simp [bad,hvx]
    rw [hb]
    exact ⟨rfl,rfl⟩
   | true =>
    obtain ⟨g1,g2⟩:=zhg ha (hv1 hvx).1
    have tail:∀ (X Y:Option Res) (nu:Bool),nu=decide ((zag x.2).length > 0)→True:=fun _ _ _ _=>trivial
    have n126:=c174 (k:=k+3) x.1 x.2 (hI x hxm) (by omega) hxl
    have n75:=c145 (k:=k+4) x.1 x.2 (hI x hxm) (by omega) hxl
    rw [ite'_nt,ite'_nt,g1,g2,n126,n75]
    simp only [zu,zj,zt,zbI,zh,zl]
    have hnu:decide (((zag x.2).length:Int) > 0)=decide ((zag x.2).length > 0):=by
     rw [Bool.eq_iff_iff];simp only [decide_eq_true_eq];omega
    rw [hnu]
    by_cases h0:i=0
    ·subst h0
     have hb:bad 0 x=(src a x&&decide ((zag x.2).length > 0)):=by simp [bad,hvx]
     rw [hb]
     cases src a x<;>cases decide ((zag x.2).length > 0)<;>exact ⟨rfl,rfl⟩
    ·have hw:IntKind.i64.wrap ((i:Int) - 1)=((i - 1:Nat):Int):=by rw [zad (by omega) (by omega)];omega
     have hy:xs[i - 1]? = some xs[i - 1]:=List.getElem?_eq_getElem (by omega)
     have hyl:=hl _ (List.mem_of_getElem? hy)
     have hd0:zm .i64 (A1 xs) ((i - 1:Nat):Int).toNat 0=some (xs[i - 1]).1:=by rw [Int.toNat_natCast,zG (zaF hy)];simp [zx]
     have hd1:zr 1 (A1 xs) ((i - 1:Nat):Int).toNat 1=some (I1 (xs[i - 1]).2):=by rw [Int.toNat_natCast,zZ (zaF hy)];simp [zL]
     have hgt:decide ((i:Int) > 0)=true:=by simp;omega
     rw [hgt,hw,hd0,hd1]
     simp only [ze,zh]
     rw [c169 (k:=k+2) xs[i - 1] x (by omega) (by omega),c144 (k:=k+5) xs[i - 1] x (by omega) (by omega),iB',iB',zn (i:=i - 1) (by omega)]
     have hb:bad i x=(decide (cmpF xs[i - 1] x ≥ 0)||(src a x&&decide ((zag x.2).length > 0))):=by
      simp [bad,hvx,List.getD_eq_getElem?_getD,hy,show i > 0 by omega]
     rw [hb]
     cases decide (cmpF xs[i - 1] x ≥ 0)<;>cases src a x<;>cases decide ((zag x.2).length > 0)<;>exact ⟨rfl,rfl⟩
  have d78:∀ k n,F100.L4 (k+7) (C (k+7)) (n+1) (A1 xs) (xs.length:Int) (xs.length:Int) a (A1 xs)=bo true:=fun k n=>by rw [F100.L4.succ,ite'_f (lt_f (by omega))];rfl
  have d74:∀ k,2000000≤k→∀ n,F67.L2 (k+7) (C (k+7)) (n+1) (xs.length:Int) a (A1 xs)=bo (rb&&decide ((xs.length:Int)≤30)):=fun k hk n=>by
   rw [F67.L2.succ,zo,ite'_f (lt_f (by omega)),(hrb (k+4) (by omega)).2,bB]
   cases rb<;>rfl
  by_cases hall:∀ (i:Nat) x,xs[i]? = some x→bad i x=false
  ·refine ⟨false,fun _=>⟨fun x hx=>?_,fun i x y hx hy=>?_⟩,fun k hk=>?_⟩
   ·obtain ⟨i,hi⟩:=List.mem_iff_getElem?.1 hx
    have:=hall i x hi
    simp only [bad,Bool.or_eq_false_iff,Bool.not_eq_false'] at this
    exact this.1
   ·have:=hall (i+1) y hy
    simp only [bad,Bool.or_eq_false_iff,Bool.and_eq_false_iff,decide_eq_false_iff_not] at this
    have h2:=this.2.1
    rw [Nat.add_sub_cancel,List.getD_eq_getElem?_getD,hx] at h2
    simp only [Option.getD_some] at h2
    omega
   ·constructor
    ·rcases zak (L:=fun n i=>F100.L4 (k+7) (C (k+7)) n (A1 xs) (xs.length:Int) i a (A1 xs)) (stop:=bad) (hit:=fun _=>bo false) (fin:=bo true) (fun n i x hx=>(s78 k hk n i x hx).1) (d78 k) (k+7) (by omega) with ⟨i,x,hx,hst,_⟩ | ⟨_,h⟩
     ·rw [hall i x hx] at hst;cases hst
     ·exact h
    ·rcases zak (L:=fun n i=>F67.L2 (k+7) (C (k+7)) n i a (A1 xs)) (stop:=bad) (hit:=fun _=>bo false) (fun n i x hx=>(s78 k hk n i x hx).2) (d74 k hk) (k+7) (by omega) with ⟨i,x,hx,hst,_⟩ | ⟨_,h⟩
     ·rw [hall i x hx] at hst;cases hst
     ·exact h
  ·refine ⟨true,⟨fun h=>(by cases h),fun k hk=>?_⟩⟩
   constructor
   ·rcases zak (L:=fun n i=>F100.L4 (k+7) (C (k+7)) n (A1 xs) (xs.length:Int) i a (A1 xs)) (stop:=bad) (hit:=fun _=>bo false) (fin:=bo true) (fun n i x hx=>(s78 k hk n i x hx).1) (d78 k) (k+7) (by omega) with ⟨i,x,hx,hst,h⟩ | ⟨h,_⟩
    ·exact h
    ·exact absurd h hall
   ·rcases zak (L:=fun n i=>F67.L2 (k+7) (C (k+7)) n i a (A1 xs)) (stop:=bad) (hit:=fun _=>bo false) (fun n i x hx=>(s78 k hk n i x hx).2) (d74 k hk) (k+7) (by omega) with ⟨i,x,hx,hst,h⟩ | ⟨h,_⟩
    ·exact h
    ·exact absurd h hall
 obtain ⟨st,hst,hk2⟩:=key
 refine ⟨rb&&(decide ((xs.length:Int)≤30)&&!st),fun h=>?_,fun k hk=>?_⟩
 ·simp only [Bool.and_eq_true,decide_eq_true_eq,Bool.not_eq_true'] at h
  refine ⟨⟨by omega,fun x hx=>(hvf x hx).1 ((hst h.2.2).1 x hx)⟩,fun x hx=>?_,(hst h.2.2).2,hr3 h.1⟩
  obtain ⟨g1,g2⟩:=(hvf x hx).1 ((hst h.2.2).1 x hx)
  have:=hr3 h.1 x.1 g1.1 g1.2
  omega
 ·obtain ⟨e1,e2⟩:=hk2 k hk
  constructor
  ·rw [F100.run,(hrb (k+4) (by omega)).1,bB,zo,e1]
   cases rb with
   | false=>rfl
   | true =>
    rw [ite'_nt]
    by_cases h30:(xs.length:Int)≤30
    ·rw [ite'_f (by simp;omega),decide_eq_true h30];rfl
    ·rw [ite'_t (by simp;omega),decide_eq_false h30];rfl
  ·rw [F67.run,e2]
   cases st<;>cases rb<;>cases decide ((xs.length:Int)≤30)<;>rfl
theorem zpP {a:Ovi.Rows} (ha:Fit Rl (.list 3 a)) (xs:List Atom) (hI:∀ x∈xs,∀ z∈x.2,inI z) (hs:zF xs+xs.length≤1048576) (hal:a.length≤1048576):∃ b,(b=true→xs.length≤30∧∀ x∈xs,(0≤x.1∧x.1 < (a.length:Int))∧(x.2.length:Int)=ar a x.1)∧∀ k,2000000≤k→C (k+8) 100 [.agg [.d (.list 3 a),.d (.list 2 (A1 xs))]]=bo b∧C (k+8) 67 [.agg [.d (.list 3 a),.d (.list 2 (A1 xs))]]=bo b:=by
 obtain ⟨b,h1,h2⟩:=zmb ha xs hI hs hal
 exact ⟨b,fun h=>(h1 h).1,h2⟩
def vals (xs:List Atom):List Int:=xs.flatMap fun x=>x.2
theorem zhi (xs:List Atom):(vals xs).length=zF xs:=by simp [vals,zF,List.length_flatMap]
theorem zpu {xs:List Atom} (hI:∀ x∈xs,∀ z∈x.2,inI z):∀ z∈vals xs,inI z:=by
 intro z hz
 obtain ⟨x,hx,h⟩:=List.mem_flatMap.1 hz
 exact hI x hx z h
end Go.Proofs.YthicohakeljdcaaGreat.Q
namespace Go.Proofs.YthicohakeljdcaaGreat.Q
open Go Ovi
variable {k:Nat}
theorem I1_c {zs:List Int} {i:Nat} {z:Int} (h:zs[i]? = some z):zm .i64 (I1 zs) (i:Int).toNat 0=some z:=by rw [Int.toNat_natCast,zG (I1_get' h)];simp [zx]
theorem zcy {M:List Int} {i:Nat} (z:Int) (h:i < M.length):rowsSet (I1 M) i 0 [.int .i64 z]=I1 (M.set i z):=by
 have:(I1 M).getD i []=[.int .i64 M[i]]:=by simp [I1,List.getD,h]
 unfold rowsSet
 rw [this]
 simp [I1,List.map_set]
theorem LL_get' {l:BL} {i:Nat} {zs:List Int} (h:l[i]? = some zs):(LL l)[i]? = some [.list 1 (I1 zs)]:=by simp [LL,h]
theorem LL_c {l:BL} {i:Nat} {zs:List Int} (h:l[i]? = some zs):zr 1 (LL l) (i:Int).toNat 0=some (I1 zs):=by rw [Int.toNat_natCast,zZ (LL_get' h)];simp [zL]
theorem zda (l:BL) (b:List Int):LL l++[[D.list 1 (I1 b)]]=LL (l++[b]):=by simp [LL]
theorem zlQ (l l':BL):LL l++LL l'=LL (l++l'):=by simp [LL]
theorem zbK (l:List Int) (z:Int):I1 l++[[D.int .i64 z]]=I1 (l++[z]):=by simp [I1]
theorem zaT {xs:List Atom} {i:Nat} {x:Atom} (h:xs[i]? = some x):zm .i64 (A1 xs) (i:Int).toNat 0=some x.1:=by rw [Int.toNat_natCast,zG (zaF h)];simp [zx]
theorem zaU {xs:List Atom} {i:Nat} {x:Atom} (h:xs[i]? = some x):zr 1 (A1 xs) (i:Int).toNat 1=some (I1 x.2):=by rw [Int.toNat_natCast,zZ (zaF h)];simp [zL]
theorem zjY (vs b:List Int):fitS [] vs b=some b:=by simp [fitS]
def okT (ts:List Int):Prop:=∀ t∈ts, -10≤t∧t≤4
def fitR:Option (List Int)→Option Res
 | some b=>some [(false,[.row 3 1 (I1 b)]),(false,[.d (.bool true)])]
 | none=>some [(false,[.nil]),(false,[.d (.bool false)])]
theorem zoV {b:List Int} {f:Ovi.Rows→Bool→Option Res}:(za (fitR (some b)) fun r=>zc (resO 3 1 2 false 1 r 0 0) fun l=>zi (resB 2 false 1 r 1 0) fun c=>f l c)=f (I1 b) true:=rfl
theorem l267 (ts vs:List Int) (r:Int) (hT:okT ts) (hl:vs.length=ts.length) (h5:ts.length≤1048576) (K:Nat):∀ (m i n:Nat) (b:List Int),i+m=ts.length→m < n→b.length=5 →
  F267.L5 K (C K) n (I1 ts) (ts.length:Int) (i:Int) r (I1 vs) (I1 b)=fitR (fitS (ts.drop i) (vs.drop i) b):=by
 have hmax:(1048576:Nat)≤maxLen:=by decide
 intro m
 induction m with
 | zero =>
  intro i n b hm hn hb
  obtain ⟨n,rfl⟩:∃ j,n=j+1:=⟨n - 1,by omega⟩
  obtain rfl:i=ts.length:=by omega
  rw [F267.L5.succ,ite'_f (lt_f (by omega)),List.drop_length,zjY]
  rfl
 | succ m ih =>
  intro i n b hm hn hb
  obtain ⟨n,rfl⟩:∃ j,n=j+1:=⟨n - 1,by omega⟩
  have hi:i < ts.length:=by omega
  have hiv:i < vs.length:=by omega
  have hx:=List.getElem?_eq_getElem hi
  have hy:=List.getElem?_eq_getElem hiv
  obtain ⟨h1,h2⟩:=hT _ (List.getElem_mem hi)
  rw [F267.L5.succ,ite'_t (lt_t hi),zl,ite'_t (zn hi),I1_c hx,ze,zl,ite'_t (zn hiv),I1_c hy,ze,zy hi (m:=ts.length) (by omega),List.drop_eq_getElem_cons hi,List.drop_eq_getElem_cons hiv,fitS,zad (by omega) (by omega)]
  by_cases hneg:ts[i] < 0
  ·rw [ite'_t (by simpa using hneg),if_pos hneg]
   by_cases he:vs[i] = -1 - ts[i]
   ·rw [ite'_f (by simpa using he),if_pos he]
    exact ih (i+1) n b (by omega) (by omega) hb
   ·rw [ite'_t (by simpa using he),if_neg he];rfl
  ·obtain ⟨q,hq⟩:∃ q:Nat,ts[i]=(q:Int):=⟨ts[i].toNat,by omega⟩
   have hq5:q < b.length:=by omega
   have hbq:b[q]? = some (b.getD q 0):=by rw [List.getD_eq_getElem?_getD,List.getElem?_eq_getElem hq5];rfl
   rw [ite'_f (by simpa using hneg),if_neg hneg,hq,zl,ite'_t (zn hq5),I1_c hbq,ze,Int.toNat_natCast]
   by_cases h10:b.getD q 0=10
   ·rw [ite'_t (by simpa using h10),ite'_t (zn hq5),if_pos h10,zcy _ hq5]
    exact ih (i+1) n _ (by omega) (by omega) (by simpa using hb)
   ·rw [ite'_f (by simpa using h10),ite'_t (zn hq5),if_neg h10]
    rw [ze]
    by_cases he:b.getD q 0=vs[i]
    ·rw [ite'_f (by simpa using he),if_pos he]
     exact ih (i+1) n b (by omega) (by omega) hb
    ·rw [ite'_t (by simpa using he),if_neg he];rfl
theorem c267 (x f:Atom) (b:List Int) (hT:okT x.2) (hl:x.1=f.1→f.2.length=x.2.length) (h5:x.2.length≤1048576) (hb:b.length=5) (hk:x.2.length < k) :
  C (k+2) 267 [.d (.list 1 (I1 b)),.agg [.d (.int .i64 x.1),.d (.list 1 (I1 x.2))],.agg [.d (.int .i64 f.1),.d (.list 1 (I1 f.2))]]=fitR (fitA x f b):=by
 rw [F267.run]
 unfold fitA
 by_cases h:x.1=f.1
 ·rw [ite'_f (by simpa using h),if_pos h]
  have e:C (k+1) 192 [.d (.list 1 (I1 b))]=some [(false,[.row 3 1 (I1 b)])]:=by
   have:C (k+1) 192 [.d (.list 1 (I1 b))]=zbv 3 [.d (.list 1 (I1 b))]:=by kernel_rfl
   rw [this]
   simp only [zbv,zbe]
   rw [show Nat.ble b.length 1099511627776=true from Nat.ble_eq_true_of_le (by omega)]
   rfl
  rw [e]
  simp only [zj,zt,zh]
  have:=l267 x.2 f.2 f.1 hT (hl h) h5 (k+1) x.2.length 0 (k+1) b (by omega) (by omega) hb
  rw [List.drop_zero,List.drop_zero] at this
  rw [zl]
  exact this
 ·rw [ite'_t (by simpa using h),if_neg h];rfl
theorem ten (k:Nat):C (k+1) 196 []=io 10:=by rw [F196.run];rfl
def FitT (o:Option (List Int)) (r:Option Res):Prop:=∃ y,r=some [(false,[.row 3 1 (I1 y)]),(false,[.d (.bool o.isSome)])]∧∀ b,o=some b→y=b
theorem l229 (ts vs:List Int) (r r':Int) (hT:okT ts) (hl:vs.length=ts.length) (h5:ts.length≤1048576) (K:Nat):∀ (m i n:Nat) (b:List Int),i+m=ts.length→m < n→b.length=5 →
  FitT (fitS (ts.drop i) (vs.drop i) b) (F229.L5 (K+1) (C (K+1)) n (i:Int) r (I1 ts) r' (I1 vs) (I1 b)):=by
 have hmax:(1048576:Nat)≤maxLen:=by decide
 intro m
 induction m with
 | zero =>
  intro i n b hm hn hb
  obtain ⟨n,rfl⟩:∃ j,n=j+1:=⟨n - 1,by omega⟩
  obtain rfl:i=ts.length:=by omega
  rw [F229.L5.succ,zl,ite'_f (lt_f (by omega)),List.drop_length,zjY]
  exact ⟨b,rfl,fun c h=>by cases h;rfl⟩
 | succ m ih =>
  intro i n b hm hn hb
  obtain ⟨n,rfl⟩:∃ j,n=j+1:=⟨n - 1,by omega⟩
  have hi:i < ts.length:=by omega
  have hiv:i < vs.length:=by omega
  have hx:=List.getElem?_eq_getElem hi
  have hy:=List.getElem?_eq_getElem hiv
  obtain ⟨h1,h2⟩:=hT _ (List.getElem_mem hi)
  rw [F229.L5.succ,zl,ite'_t (lt_t hi),ite'_t (zn hi),I1_c hx,ze,zy hi (m:=ts.length) (by omega),List.drop_eq_getElem_cons hi,List.drop_eq_getElem_cons hiv,fitS,zad (by omega) (by omega)]
  by_cases hneg:ts[i] < 0
  ·rw [ite'_t (by simpa using hneg),if_pos hneg,zl,ite'_t (zn hiv),I1_c hy,ze]
   by_cases he:vs[i] = -1 - ts[i]
   ·rw [ite'_f (by simpa using he.symm),if_pos he]
    exact ih (i+1) n b (by omega) (by omega) hb
   ·rw [ite'_t (by simpa using fun h=>he h.symm),if_neg he]
    exact ⟨b,rfl,fun c h=>by cases h⟩
  ·obtain ⟨q,hq⟩:∃ q:Nat,ts[i]=(q:Int):=⟨ts[i].toNat,by omega⟩
   have hq5:q < b.length:=by omega
   have hbq:b[q]? = some (b.getD q 0):=by rw [List.getD_eq_getElem?_getD,List.getElem?_eq_getElem hq5];rfl
   rw [ite'_f (by simpa using hneg),if_neg hneg,hq,zl,ite'_t (zn hq5),I1_c hbq,ze,ten,iB',Int.toNat_natCast,zl]
   have hset:∀ b',b'=b.set q vs[i]→FitT (fitS (ts.drop (i+1)) (vs.drop (i+1)) b') (ite' (inR (i:Int) vs.length) (zf (zm .i64 (I1 vs) (i:Int).toNat 0) fun n20=>ite' (inR (q:Int) b.length) (F229.L5 (K+1) (C (K+1)) n ((i+1:Nat):Int) r (I1 ts) r' (I1 vs) (rowsSet (I1 b) q 0 [.int .i64 n20])) none) none):=by
    intro b' hb'
    rw [ite'_t (zn hiv),I1_c hy,ze,ite'_t (zn hq5),zcy _ hq5,← hb']
    exact ih (i+1) n b' (by omega) (by omega) (by rw [hb'];simpa using hb)
   by_cases h10:b.getD q 0=10
   ·rw [ite'_f (by simpa using h10),if_pos h10]
    exact hset _ rfl
   ·rw [ite'_t (by simpa using h10),if_neg h10,ite'_t (zn hq5),ze,ite'_t (zn hiv),I1_c hy,ze]
    by_cases he:b.getD q 0=vs[i]
    ·rw [ite'_f (by simpa using he),if_pos he]
     have:=hset b (by
      rw [← he]
      apply List.ext_getElem?
      intro j
      rw [List.getElem?_set]
      by_cases hj:q=j
      ·subst hj;rw [if_pos rfl,if_pos hq5,hbq]
      ·rw [if_neg hj])
     rw [ite'_t (zn hiv),I1_c hy,ze] at this
     rw [ite'_t (zn hiv),ze]
     exact this
    ·rw [ite'_t (by simpa using he),if_neg he]
     exact ⟨b,rfl,fun c h=>by cases h⟩
theorem c229 (x f:Atom) (b:List Int) (hT:okT x.2) (hl:x.1=f.1→f.2.length=x.2.length) (h5:x.2.length≤1048576) (hb:b.length=5) (hk:x.2.length < k) :
  FitT (fitA x f b) (C (k+2) 229 [.agg [.d (.int .i64 x.1),.d (.list 1 (I1 x.2))],.agg [.d (.int .i64 f.1),.d (.list 1 (I1 f.2))],.d (.list 1 (I1 b))]):=by
 rw [F229.run,zl,ite'_t (zS (by omega))]
 unfold fitA
 by_cases h:x.1=f.1
 ·rw [ite'_f (by simpa using h),if_pos h,zl,zl,hl h,ite'_f (by simp)]
  have:=l229 x.2 f.2 x.1 f.1 hT (hl h) h5 k x.2.length 0 (k+1) b (by omega) (by omega) hb
  rw [List.drop_zero,List.drop_zero] at this
  exact this
 ·rw [ite'_t (by simpa using h),if_neg h]
  exact ⟨b,rfl,fun c h=>by cases h⟩
structure Mok (fs xs:List Atom):Prop where
 f30:fs.length≤30
 x3:xs.length≤3
 ts:∀ x∈xs,okT x.2∧x.2.length≤1048576
 len:∀ x∈xs,∀ f∈fs,x.1=f.1→f.2.length=x.2.length
theorem zmk {a n:Nat} (ha:a≤30) (hn:n≤3):a ^ n≤27000:=by
 have h1:a ^ n≤30 ^ n:=Nat.pow_le_pow_left ha n
 have h2:30 ^ n≤30 ^ 3:=Nat.pow_le_pow_right (by omega) hn
 omega
theorem Mok.lens {fs xs:List Atom} (h:Mok fs xs) (b:List Int):(mats fs xs b).length≤27000:=Nat.le_trans (zg7 fs xs b) (zmk h.f30 h.x3)
theorem Mok.tail {fs:List Atom} {x:Atom} {xs:List Atom} (h:Mok fs (x::xs)):Mok fs xs :=
 ⟨h.f30,by have:=h.x3;simp only [List.length_cons] at this;omega,fun y hy=>h.ts y (List.mem_cons_of_mem _ hy),fun y hy=>h.len y (List.mem_cons_of_mem _ hy)⟩
def sub (fs xs:List Atom) (x:Atom) (b:List Int) (f:Atom):BL:=((fitA x f b).map (mats fs xs)).getD []
theorem zov {fs xs:List Atom} (h:Mok fs xs) (x:Atom) (b:List Int) (f:Atom):(sub fs xs x b f).length≤27000:=by
 unfold sub
 cases fitA x f b with
 | none=>simp
 | some b'=>exact h.lens b'
theorem c231 {fs:List Atom} (hk:2000000≤k):∀ (xs:List Atom),Mok fs xs→∀ b:List Int,b.length=5→C (k+xs.length+3) 231 [.d (.list 2 (A1 fs)),.d (.list 2 (A1 xs)),.d (.list 1 (I1 b))]=some [(false,[.row 39 1 (LL (mats fs xs b))])]
 | [],h,b,hb=>by rw [F231.run,ite'_t (by rfl)];rfl
 | x::xs,h,b,hb=>by
  have hmax:(1048576:Nat)≤maxLen:=by decide
  have hx0:=h.ts x List.mem_cons_self
  have hf30:=h.f30
  have main:∀ (m i n:Nat) (acc:BL),i+m=fs.length→m < n→acc.length≤27000 * i →
    F231.L5 (k+xs.length+3) (C (k+xs.length+3)) n (A1 fs) (A1 (x::xs)) (I1 b) (A1 fs) (fs.length:Int) (i:Int) (LL acc)=some [(false,[.row 39 1 (LL (acc++(fs.drop i).flatMap (sub fs xs x b)))])]:=by
   intro m
   induction m with
   | zero =>
    intro i n acc hm hn ha
    obtain ⟨n,rfl⟩:∃ j,n=j+1:=⟨n - 1,by omega⟩
    obtain rfl:i=fs.length:=by omega
    rw [F231.L5.succ,ite'_f (lt_f (by omega)),List.drop_length]
    simp
   | succ m ih =>
    intro i n acc hm hn ha
    obtain ⟨n,rfl⟩:∃ j,n=j+1:=⟨n - 1,by omega⟩
    have hi:i < fs.length:=by omega
    have hf:=List.getElem?_eq_getElem hi
    have hfm:=List.getElem_mem hi
    have hsl:=zov h.tail x b fs[i]
    have e0:zm .i64 (A1 (x::xs)) 0 0=some x.1:=zaT (xs:=x::xs) (i:=0) rfl
    have e1:zr 1 (A1 (x::xs)) 0 1=some (I1 x.2):=zaU (xs:=x::xs) (i:=0) rfl
    have hin:inR (0:Int) (A1 (x::xs)).length=true:=zn (i:=0) (by rw [zo];simp)
    have hk1:k+xs.length+3=(k+xs.length+1)+2:=rfl
    rw [F231.L5.succ,ite'_t (lt_t hi),zo,ite'_t (zn hi),zaT hf,ze,zaU hf,zh,hin,ite'_t rfl,e0,ze,e1,zh]
    have e123:C (k+xs.length+3) 267 [.d (.list 1 (I1 b)),.agg [.d (.int .i64 x.1),.d (.list 1 (I1 x.2))],.agg [.d (.int .i64 (fs[i]).1),.d (.list 1 (I1 (fs[i]).2))]]=fitR (fitA x fs[i] b) :=
     c267 (k:=k+xs.length+1) x fs[i] b hx0.1 (h.len x List.mem_cons_self _ hfm) hx0.2 hb (by omega)
    rw [e123,zy hi (m:=fs.length) (by omega),List.drop_eq_getElem_cons hi,List.flatMap_cons]
    cases hfa:fitA x fs[i] b with
    | none =>
     have hs:sub fs xs x b fs[i]=[]:=by unfold sub;rw [hfa];rfl
     rw [hs,List.nil_append]
     show F231.L5 (k+xs.length+3) (C (k+xs.length+3)) n (A1 fs) (A1 (x::xs)) (I1 b) (A1 fs) (fs.length:Int) ((i+1:Nat):Int) (LL acc)=_
     exact ih (i+1) n acc (by omega) (by omega) (by omega)
    | some b' =>
     have hs:sub fs xs x b fs[i]=mats fs xs b':=by unfold sub;rw [hfa];rfl
     have hb':b'.length=5:=by rw [zg4 hfa];exact hb
     rw [hs] at hsl ⊢
     have hins:inS (1:Int) ((A1 (x::xs)).length:Int) (A1 (x::xs)).length=true:=by
      simp only [inS,decide_eq_true_eq,zo,List.length_cons];omega
     have hrec:C (k+xs.length+3) 231 [.d (.list 2 (A1 fs)),.d (.list 2 (A1 xs)),.d (.list 1 (I1 b'))]=some [(false,[.row 39 1 (LL (mats fs xs b'))])]:=c231 hk xs h.tail b' hb'
     rw [zoV,ite'_t rfl,hins,ite'_t rfl]
     show (za (C (k+xs.length+3) 231 [.d (.list 2 (A1 fs)),.d (.list 2 (A1 xs)),.d (.list 1 (I1 b'))]) fun r20=>zc (resO 39 1 1 false 1 r20 0 0) fun l87=>ite' (fits ((LL acc).length+l87.length)) (F231.L5 (k+xs.length+3) (C (k+xs.length+3)) n (A1 fs) (A1 (x::xs)) (I1 b) (A1 fs) (fs.length:Int) ((i+1:Nat):Int) (LL acc++l87)) none)=_
     rw [hrec]
     simp only [zj,zt,zh]
     rw [ite'_t (zS (by rw [zA,zA];omega)),zlQ,← List.append_assoc]
     exact ih (i+1) n _ (by omega) (by omega) (by rw [List.length_append];omega)
  have:=main fs.length 0 (k+xs.length+3) [] (by omega) (by omega) (by simp)
  rw [List.drop_zero,List.nil_append] at this
  rw [show k+(x::xs).length+3=(k+xs.length+3)+1 by simp only [List.length_cons];omega,F231.run,ite'_f (by rw [zo];simp;omega),zo]
  exact this
end Go.Proofs.YthicohakeljdcaaGreat.Q
namespace Go.Proofs.YthicohakeljdcaaGreat.Q
open Go Ovi
variable {k:Nat}
theorem zbR:∀ (a b:List Int),cmpI a b=0↔a=b
 | [],[]=>by simp [cmpI]
 | [],_::_=>by simp [cmpI]
 | _::_,[]=>by simp [cmpI]
 | x::xs,y::ys=>by
  unfold cmpI
  by_cases h1:x < y
  ·rw [if_pos h1]
   constructor
   ·intro h;omega
   ·intro h;cases h;omega
  ·rw [if_neg h1]
   by_cases h2:x > y
   ·rw [if_pos h2]
    constructor
    ·intro h;omega
    ·intro h;cases h;omega
   ·rw [if_neg h2,zbR xs ys]
    have:x=y:=by omega
    subst this
    simp
theorem c236 (a b:List Int) (hk:a.length < k) (ha:a.length≤maxLen):C (k+1) 236 [.d (.list 1 (I1 a)),.d (.list 1 (I1 b))]=bo (decide (a=b)):=by
 rw [F236.run,zl,zl]
 by_cases hl:a.length=b.length
 ·rw [ite'_f (by simp [hl])]
  have:=zak (xs:=a) (L:=fun n i=>F236.L4 k (C k) n (I1 a) (I1 b) (a.length:Int) i) (stop:=fun i x=>x != b.getD i 0) (hit:=fun _=>bo false) (fin:=bo true)
   (fun n i x hx=>by
    have hi:=(List.getElem?_eq_some_iff.1 hx).1
    have hy:b[i]? = some (b.getD i 0):=by rw [List.getD_eq_getElem?_getD,List.getElem?_eq_getElem (by omega)];rfl
    rw [F236.L4.succ,zl,zl,ite'_t (lt_t hi),ite'_t (zn hi),I1_c hx,ze,ite'_t (zn (by omega)),I1_c hy,ze,zy hi ha];rfl)
   (fun n=>by rw [F236.L4.succ,ite'_f (lt_f (by omega))];rfl) k hk
  rcases this with ⟨i,x,hx,hst,e⟩ | ⟨hst,e⟩
  ·rw [show F236.L4 k (C k) k (I1 a) (I1 b) (a.length:Int) 0=_ from e]
   refine zar (decide_eq_false (fun h=>?_)).symm
   subst h
   rw [List.getD_eq_getElem?_getD,hx] at hst
   simp at hst
  ·rw [show F236.L4 k (C k) k (I1 a) (I1 b) (a.length:Int) 0=_ from e]
   refine zar (decide_eq_true ?_).symm
   apply List.ext_getElem?
   intro i
   by_cases hi:i < a.length
   ·have:=hst i a[i] (List.getElem?_eq_getElem hi)
    rw [List.getD_eq_getElem?_getD,List.getElem?_eq_getElem (by omega)] at this
    rw [List.getElem?_eq_getElem hi,List.getElem?_eq_getElem (by omega)]
    simpa using this
   ·rw [List.getElem?_eq_none (by omega),List.getElem?_eq_none (by omega)]
 ·rw [ite'_t (by simp;omega)]
  exact zar (decide_eq_false (fun h=>hl (by rw [h]))).symm
theorem zoW {b:List Int} {c:Bool} {f:Ovi.Rows→Bool→Option Res}:(za (some [(false,[.row 3 1 (I1 b)]),(false,[.d (.bool c)])]) fun r=>zc (resO 3 1 2 false 1 r 0 0) fun l=>zi (resB 2 false 1 r 1 0) fun d=>f l d)=f (I1 b) c:=rfl
theorem c177 {a:Ovi.Rows} {fs xs:List Atom} (hM:Mok fs xs) (hk:2000000≤k):∀ (m n:Nat),n+m=xs.length→∀ b:List Int,b.length=5→C (k+m+3) 177 [.agg [.d (.list 3 a),.d (.list 2 (A1 fs))],.d (.list 2 (A1 xs)),.d (.int .i64 (n:Int)),.d (.list 1 (I1 b))]=some [(false,[.row 39 1 (LL (mats fs (xs.drop n) b))])]:=by
 have hmax:(1048576:Nat)≤maxLen:=by decide
 intro m
 induction m with
 | zero =>
  intro n hn b hb
  obtain rfl:n=xs.length:=by omega
  rw [F177.run,zo,ite'_t (by simp),zl,ite'_t (zS (by omega)),List.drop_length]
  rfl
 | succ m ih =>
  intro n hn b hb
  have hnl:n < xs.length:=by omega
  have hx:=List.getElem?_eq_getElem hnl
  have hxm:=List.getElem_mem hnl
  have hx0:=hM.ts _ hxm
  have hf30:=hM.f30
  have hx3:=hM.x3
  have hsub:∀ f,(sub fs (xs.drop (n+1)) xs[n] b f).length≤27000:=fun f=>by
   unfold sub
   cases fitA xs[n] f b with
   | none=>simp
   | some b'=>exact Nat.le_trans (zg7 fs _ b') (zmk hf30 (by rw [List.length_drop];omega))
  have main:∀ (p i j:Nat) (acc:BL),i+p=fs.length→p < j→acc.length≤27000 * i →
    F177.L5 (k+m+3) (C (k+m+3)) j (A1 xs) (n:Int) (I1 b) (i:Int) a (A1 fs) (LL acc)=some [(false,[.row 39 1 (LL (acc++(fs.drop i).flatMap (sub fs (xs.drop (n+1)) xs[n] b)))])]:=by
   intro p
   induction p with
   | zero =>
    intro i j acc hm hj ha
    obtain ⟨j,rfl⟩:∃ q,j=q+1:=⟨j - 1,by omega⟩
    obtain rfl:i=fs.length:=by omega
    rw [F177.L5.succ,zo,ite'_f (lt_f (by omega)),List.drop_length]
    simp
   | succ p ihp =>
    intro i j acc hm hj ha
    obtain ⟨j,rfl⟩:∃ q,j=q+1:=⟨j - 1,by omega⟩
    have hi:i < fs.length:=by omega
    have hf:=List.getElem?_eq_getElem hi
    have hfm:=List.getElem_mem hi
    have hsl:=hsub fs[i]
    rw [F177.L5.succ,zo,ite'_t (lt_t hi),zo,ite'_t (zn hnl),zaT hx,ze,zaU hx,zh,ite'_t (zn hi),zaT hf,ze,zaU hf,zh]
    obtain ⟨y,e102,hy⟩:FitT (fitA xs[n] fs[i] b) (C (k+m+3) 229 [.agg [.d (.int .i64 (xs[n]).1),.d (.list 1 (I1 (xs[n]).2))],.agg [.d (.int .i64 (fs[i]).1),.d (.list 1 (I1 (fs[i]).2))],.d (.list 1 (I1 b))]):=c229 (k:=k+m+1) xs[n] fs[i] b hx0.1 (hM.len _ hxm _ hfm) hx0.2 hb (by omega)
    rw [e102,zoW,zy hi (m:=fs.length) (by omega),List.drop_eq_getElem_cons hi,List.flatMap_cons]
    cases hfa:fitA xs[n] fs[i] b with
    | none =>
     have hs:sub fs (xs.drop (n+1)) xs[n] b fs[i]=[]:=by unfold sub;rw [hfa];rfl
     rw [hs,List.nil_append,show (none:Option (List Int)).isSome=false from rfl,ite'_f rfl]
     exact ihp (i+1) j acc (by omega) (by omega) (by omega)
    | some b' =>
     have hs:sub fs (xs.drop (n+1)) xs[n] b fs[i]=mats fs (xs.drop (n+1)) b':=by unfold sub;rw [hfa];rfl
     obtain rfl:=hy b' hfa
     have hb':y.length=5:=by rw [zg4 hfa];exact hb
     rw [hs] at hsl ⊢
     have hw:IntKind.i64.wrap ((n:Int)+1)=((n+1:Nat):Int):=zy hnl (m:=xs.length) (by omega)
     rw [show (some y).isSome=true from rfl,ite'_t rfl]
     rw [hw,ih (n+1) (by omega) y hb']
     simp only [zj,zt,zh]
     rw [ite'_t (zS (by rw [zA,zA];omega)),zlQ,← List.append_assoc]
     exact ihp (i+1) j _ (by omega) (by omega) (by rw [List.length_append];omega)
  have:=main fs.length 0 (k+m+3) [] (by omega) (by omega) (by simp)
  rw [List.drop_zero,List.nil_append] at this
  rw [show k+(m+1)+3=(k+m+3)+1 by omega,F177.run,zo,ite'_f (by simp;omega),List.drop_eq_getElem_cons hnl]
  exact this
def tens:List Int:=[10,10,10,10,10]
theorem c232:C (k+2) 232 []=some [(false,[.row 3 1 (I1 tens)])]:=by
 have:C (k+1) 268 [.d (.list 1 [[.int .i64 10]]),.d (.int .i64 5)]=zgm 3 [.d (.list 1 [[.int .i64 10]]),.d (.int .i64 5)]:=by kernel_rfl
 rw [F232.run,this]
 rfl
theorem c178 (hk:100≤k):C (k+2) 178 []=some [(false,[.row 3 1 (I1 tens)])]:=by
 have step:∀ (n:Nat) (l:List Int),l.length < 5→F178.L2 (k+1) (C (k+1)) (n+1) (I1 l)=F178.L2 (k+1) (C (k+1)) n (I1 (l++[10])):=by
  intro n l hl
  have h5:decide (((l.length:Nat):Int) < 5)=true:=by rw [decide_eq_true_eq];omega
  have hf:fits (l.length+[[D.int IntKind.i64 10]].length)=true:=zS (by simp only [List.length_cons,List.length_nil];omega)
  rw [F178.L2.succ,zl,ite'_t h5,ten,iB',ite'_t hf,zbK]
 obtain ⟨j,rfl⟩:∃ j,k=j+5:=⟨k - 5,by omega⟩
 have e:F178.L2 (j+5+1) (C (j+5+1)) (j+5+1) (I1 [])=F178.L2 (j+5+1) (C (j+5+1)) (j+1) (I1 [10,10,10,10,10]) :=
  (step (j+5) [] (by simp)).trans ((step (j+4) [10] (by simp)).trans ((step (j+3) [10,10] (by simp)).trans ((step (j+2) [10,10,10] (by simp)).trans (step (j+1) [10,10,10,10] (by simp)))))
 have e2:F178.L2 (j+5+1) (C (j+5+1)) (j+1) (I1 [10,10,10,10,10])=some [(false,[.row 3 1 (I1 tens)])]:=by
  rw [F178.L2.succ,zl,ite'_f (by simp)]
  rfl
 rw [F178.run]
 exact e.trans e2
theorem c269 (L:BL) (f:FuncId) (caps:Ovi.Rows) (p:List Int→Bool) (hk:L.length < k) (hz:L.length≤maxLen) (hp:∀ x∈L,C k f (.d (.list 1 (I1 x))::caps.map fun c=>.cap c 0)=bo (p x)):C (k+2) 269 [.d (.list 1 (LL L)),.d (.fn f caps)]=bo (L.any p):=by
 rw [F269.run,F291.run,zA]
 have:=zak (xs:=L) (L:=fun n i=>F291.L2 k (C k) n (LL L) f caps (L.length:Int) i) (stop:=fun _ x=>p x) (hit:=fun i=>some [(false,[.d (.int .i64 (i:Int))])]) (fin:=some [(false,[.d (.int .i64 (-1))])])
  (fun n i x hx=>by
   have hi:=(List.getElem?_eq_some_iff.1 hx).1
   rw [F291.L2.succ,zA,ite'_t (lt_t hi),ite'_t (zn hi),LL_c hx,zh,zy hi hz]
   have:=hp x (List.mem_of_getElem? hx)
   simp only [List.append_eq,List.nil_append] at this ⊢
   rw [this,bB];rfl)
  (fun n=>by rw [F291.L2.succ,ite'_f (lt_f (by omega))]) k hk
 rcases this with ⟨i,x,hx,hst,e⟩ | ⟨hst,e⟩
 ·rw [show F291.L2 k (C k) k (LL L) f caps (L.length:Int) 0=_ from e]
  simp only [zj,zw,ze]
  refine zar ?_
  rw [List.any_eq_true.2 ⟨x,List.mem_of_getElem? hx,hst⟩]
  simp
 ·rw [show F291.L2 k (C k) k (LL L) f caps (L.length:Int) 0=_ from e]
  simp only [zj,zw,ze]
  refine zar ?_
  have:L.any p=false:=by
   rw [List.any_eq_false]
   intro x hx
   obtain ⟨i,hi⟩:=List.mem_iff_getElem?.1 hx
   simpa using hst i x hi
  rw [this];rfl
theorem c233 (L:BL) (z:List Int) (hk:L.length < k) (hz:L.length≤1048576) (hx:∀ x∈L,x.length≤1048576) (hk2:2000000≤k):C (k+5) 233 [.d (.list 1 (LL L)),.d (.list 1 (I1 z))]=bo (decide (z∈L)):=by
 have hmax:(1048576:Nat)≤maxLen:=by decide
 rw [F233.run,c269 (k:=k+2) L 270 [[.list 1 (I1 z)]] (fun x=>decide (x=z)) (by omega) (by omega) (fun x hxm=>by
  have:=hx x hxm
  rw [List.map_cons,List.map_nil,F270.run,c236 (k:=k) x z (by omega) (by omega),bB];rfl),bB]
 refine zar ?_
 rw [Bool.eq_iff_iff]
 simp
theorem l180 (all:BL) (hall:all.length≤27000) (hl:∀ x∈all,x.length=5) (hk:2000000≤k):F180.L5 (k+5) (C (k+5)) (k+5) (all.length:Int) 0 [] (LL all)=some [(false,[.row 39 1 (LL (ded [] all))])]:=by
 have hmax:(1048576:Nat)≤maxLen:=by decide
 have main:∀ (m i n:Nat) (out:BL),i+m=all.length→m < n→out.length≤i→(∀ x∈out,x.length=5)→F180.L5 (k+5) (C (k+5)) n (all.length:Int) (i:Int) (LL out) (LL all)=some [(false,[.row 39 1 (LL (ded out (all.drop i)))])]:=by
  intro m
  induction m with
  | zero =>
   intro i n out hm hn ho hx
   obtain ⟨n,rfl⟩:∃ j,n=j+1:=⟨n - 1,by omega⟩
   obtain rfl:i=all.length:=by omega
   rw [F180.L5.succ,ite'_f (lt_f (by omega)),List.drop_length,ded]
  | succ m ih =>
   intro i n out hm hn ho hx
   obtain ⟨n,rfl⟩:∃ j,n=j+1:=⟨n - 1,by omega⟩
   have hi:i < all.length:=by omega
   have hg:=List.getElem?_eq_getElem hi
   have h5:=hl _ (List.getElem_mem hi)
   rw [F180.L5.succ,ite'_t (lt_t hi),zA,ite'_t (zn hi),LL_c hg,zh,c233 (k:=k) out all[i] (by omega) (by omega) (fun x h=>by rw [hx x h];omega) hk,bB,zy hi (m:=all.length) (by omega),List.drop_eq_getElem_cons hi,ded]
   by_cases hmem:all[i]∈out
   ·rw [decide_eq_true hmem,ite'_nt,if_pos hmem]
    exact ih (i+1) n out (by omega) (by omega) (by omega) hx
   ·rw [decide_eq_false hmem,ite'_nf,if_neg hmem,ite'_t (zS (by rw [zA];simp;omega)),zda]
    refine ih (i+1) n _ (by omega) (by omega) (by rw [List.length_append,List.length_singleton];omega) (fun x h=>?_)
    rcases List.mem_append.1 h with h | h
    ·exact hx x h
    ·rw [List.mem_singleton.1 h];exact h5
 exact main all.length 0 (k+5) [] (by omega) (by omega) (Nat.zero_le _) (by simp)
theorem l105 (all:BL) (hall:all.length≤27000) (hl:∀ x∈all,x.length=5) (hk:2000000≤k):F105.L6 (k+1) (C (k+1)) (k+1) 0 [] (LL all)=some [(false,[.row 39 1 (LL (ded [] all))])]:=by
 have hmax:(1048576:Nat)≤maxLen:=by decide
 have inner:∀ (out:BL) (i:Nat) (hi:i < all.length),out.length≤i→(∀ x∈out,x.length=5)→∀ (m j n k6:Nat) (met:Bool),j+m=out.length→m < n →
   F105.L10 (k+1) (C (k+1)) k6 n (i:Int) met (j:Int) (LL out) (LL all)=F105.L6 (k+1) (C (k+1)) k6 ((i+1:Nat):Int) (LL (if met=true∨all[i]∈out.drop j then out else out++[all[i]])) (LL all):=by
  intro out i hi ho hx m
  induction m with
  | zero =>
   intro j n k6 met hm hn
   obtain ⟨n,rfl⟩:∃ q,n=q+1:=⟨n - 1,by omega⟩
   obtain rfl:j=out.length:=by omega
   rw [F105.L10.succ,zA,ite'_f (lt_f (by omega)),List.drop_length,zy hi (m:=all.length) (by omega),zA,LL_c (List.getElem?_eq_getElem hi)]
   cases met with
   | true=>rw [ite'_nt,if_pos (.inl rfl)]
   | false=>rw [ite'_nf,ite'_t (zn hi),zh,ite'_t (zS (by simp;omega)),if_neg (by simp),zda]
  | succ m ih =>
   intro j n k6 met hm hn
   obtain ⟨n,rfl⟩:∃ q,n=q+1:=⟨n - 1,by omega⟩
   have hj:j < out.length:=by omega
   have hg:=List.getElem?_eq_getElem hj
   have h5:=hx _ (List.getElem_mem hj)
   rw [F105.L10.succ,zA,ite'_t (lt_t hj),zy hj (m:=out.length) (by omega),List.drop_eq_getElem_cons hj]
   cases met with
   | true =>
    rw [ite'_t rfl,ih (j+1) n k6 true (by omega) (by omega),if_pos (.inl rfl),if_pos (.inl rfl)]
   | false =>
    rw [ite'_f rfl,ite'_t (zn hj),LL_c hg,zh,zA,ite'_t (zn hi),LL_c (List.getElem?_eq_getElem hi),zh,c179 (k:=k) out[j] all[i] (by omega) (by omega),iB',ih (j+1) n k6 _ (by omega) (by omega)]
    congr 2
    by_cases he:out[j]=all[i]
    ·rw [if_pos (.inl (by rw [(zbR _ _).2 he];rfl)),if_pos (.inr (by rw [he];exact List.mem_cons_self))]
    ·have h0:(cmpI out[j] all[i]==0)=false:=by
      rw [beq_eq_false_iff_ne]
      exact fun h=>he ((zbR _ _).1 h)
     rw [h0]
     by_cases hmem:all[i]∈out.drop (j+1)
     ·rw [if_pos (.inr hmem),if_pos (.inr (List.mem_cons_of_mem _ hmem))]
     ·rw [if_neg (by simp [hmem]),if_neg (by
       rintro (h | h)
       ·cases h
       ·rcases List.mem_cons.1 h with h | h
        ·exact he h.symm
        ·exact hmem h)]
 have main:∀ (m i n:Nat) (out:BL),i+m=all.length→m < n→out.length≤i→(∀ x∈out,x.length=5)→F105.L6 (k+1) (C (k+1)) n (i:Int) (LL out) (LL all)=some [(false,[.row 39 1 (LL (ded out (all.drop i)))])]:=by
  intro m
  induction m with
  | zero =>
   intro i n out hm hn ho hx
   obtain ⟨n,rfl⟩:∃ j,n=j+1:=⟨n - 1,by omega⟩
   obtain rfl:i=all.length:=by omega
   rw [F105.L6.succ,zA,ite'_f (lt_f (by omega)),List.drop_length,ded]
  | succ m ih =>
   intro i n out hm hn ho hx
   obtain ⟨n,rfl⟩:∃ j,n=j+1:=⟨n - 1,by omega⟩
   have hi:i < all.length:=by omega
   have h5:=hl _ (List.getElem_mem hi)
   rw [F105.L6.succ,zA,ite'_t (lt_t hi)]
   have:=inner out i hi ho hx out.length 0 (k+1) n false (by omega) (by omega)
   rw [show ((0:Nat):Int)=0 from rfl,List.drop_zero] at this
   rw [this,List.drop_eq_getElem_cons hi,ded]
   by_cases hmem:all[i]∈out
   ·rw [if_pos (.inr hmem),if_pos hmem]
    exact ih (i+1) n out (by omega) (by omega) (by omega) hx
   ·rw [if_neg (by simp [hmem]),if_neg hmem]
    refine ih (i+1) n _ (by omega) (by omega) (by rw [List.length_append,List.length_singleton];omega) (fun x h=>?_)
    rcases List.mem_append.1 h with h | h
    ·exact hx x h
    ·rw [List.mem_singleton.1 h];exact h5
 exact main all.length 0 (k+1) [] (by omega) (by omega) (Nat.zero_le _) (by simp)
end Go.Proofs.YthicohakeljdcaaGreat.Q
namespace Go.Proofs.YthicohakeljdcaaGreat.Q
open Go Ovi
variable {k:Nat}
theorem zhs:∀ a b:List Int,cmpI a b=cmpL a b
 | [],[]=>rfl
 | [],_::_=>rfl
 | _::_,[]=>rfl
 | x::xs,y::ys=>by
  unfold cmpI cmpL
  rw [zhs xs ys]
theorem zhh {p:List Int→Bool} {all:BL} {i:Nat} (hi:i < all.length):(all.take (i+1)).filter p=(all.take i).filter p++(if p all[i] then [all[i]] else []):=by
 rw [List.take_succ_eq_append_getElem hi,List.filter_append]
 congr 1
 cases h:p all[i]<;>simp [h]
theorem l107 (all:BL) (q:List Int) (X:Ovi.Rows) (f:FuncId) (caps:Ovi.Rows) (p:List Int→Bool) (hp:∀ x∈all,C (k+1) f (.d (.list 1 (I1 x))::[].append (caps.map fun c:List D=>.cap c 0))=bo (p x)) (hall:all.length≤27000) (hl:∀ x∈all,x.length=5) (hq:∀ v∈q,0≤v∧v < 5) (hq3:q.length≤3) (hk:2000000≤k) :
  F107.L3 (k+1) (C (k+1)) (k+1) f caps (all.length:Int) 0 (I1 q) X [] (LL all)=some [(false,[.frow 39 1 1 (LL (Lib.compact (zz ((all.filter p).map (proj q)))))])]:=by
 have hmax:(1048576:Nat)≤maxLen:=by decide
 have inner:∀ (out:BL) (i:Nat) (b:List Int),b.length=5→i < all.length→out.length≤i→∀ (m j n k3:Nat),j+m=q.length→m < n →
   F107.L8 (k+1) (C (k+1)) k3 n f caps (I1 b) (all.length:Int) (i:Int) (I1 q) (q.length:Int) (j:Int) (I1 q) X (LL out) (I1 ((q.take j).map fun v=>b.getD v.toNat 0)) (LL all) =
   F107.L3 (k+1) (C (k+1)) k3 f caps (all.length:Int) ((i+1:Nat):Int) (I1 q) X (LL (out++[proj q b])) (LL all):=by
  intro out i b hb hi ho m
  induction m with
  | zero =>
   intro j n k3 hm hn
   obtain ⟨n,rfl⟩:∃ p,n=p+1:=⟨n - 1,by omega⟩
   obtain rfl:j=q.length:=by omega
   rw [F107.L8.succ,ite'_f (lt_f (by omega)),List.take_length,ite'_t (zS (by rw [zA];simp;omega)),zy hi (m:=all.length) (by omega),zda]
   rfl
  | succ m ih =>
   intro j n k3 hm hn
   obtain ⟨n,rfl⟩:∃ p,n=p+1:=⟨n - 1,by omega⟩
   have hj:j < q.length:=by omega
   have hg:=List.getElem?_eq_getElem hj
   obtain ⟨h1,h2⟩:=hq _ (List.getElem_mem hj)
   obtain ⟨p,hp⟩:∃ p:Nat,q[j]=(p:Int):=⟨q[j].toNat,by omega⟩
   have hp5:p < b.length:=by omega
   have hbp:b[p]? = some (b.getD p 0):=by rw [List.getD_eq_getElem?_getD,List.getElem?_eq_getElem hp5];rfl
   have:=ih (j+1) n k3 (by omega) (by omega)
   rw [List.take_succ_eq_append_getElem hj,List.map_append] at this
   rw [F107.L8.succ,ite'_t (lt_t hj),zl,ite'_t (zn hj),I1_c hg,ze,hp,zl,ite'_t (zn hp5),I1_c hbp,ze,zl,ite'_t (zS (by simp only [List.length_map,List.length_take,List.length_cons,List.length_nil];omega)),zy hj (m:=q.length) (by omega),zbK,← this]
   rw [List.map_cons,List.map_nil,hp,Int.toNat_natCast]
 have main:∀ (m i n:Nat),i+m=all.length→m < n→F107.L3 (k+1) (C (k+1)) n f caps (all.length:Int) (i:Int) (I1 q) X (LL (((all.take i).filter p).map (proj q))) (LL all)=some [(false,[.frow 39 1 1 (LL (Lib.compact (zz ((all.filter p).map (proj q)))))])]:=by
  intro m
  induction m with
  | zero =>
   intro i n hm hn
   obtain ⟨n,rfl⟩:∃ j,n=j+1:=⟨n - 1,by omega⟩
   obtain rfl:i=all.length:=by omega
   rw [List.take_length]
   have hfl:(all.filter p).length≤all.length:=List.length_filter_le _ _
   have e75:C (k+1) 181 [.var 0 0,.d (.int .i64 39),.d (.list 1 (LL ((all.filter p).map (proj q))))]=some [(false,[.frow 39 1 1 (LL (Lib.compact (zz ((all.filter p).map (proj q)))))]),(true,[])]:=by
    have:C (k+1) 181 [.var 0 0,.d (.int .i64 39),.d (.list 1 (LL ((all.filter p).map (proj q))))]=zcm [.var 0 0,.d (.int .i64 39),.d (.list 1 (LL ((all.filter p).map (proj q))))]:=by kernel_rfl
    rw [this]
    unfold zcm zb2
    simp only [zj7,Option.bind_some]
    rw [show (Nat.ble ((all.filter p).map (proj q)).length 1099511627776&&((all.filter p).map (proj q)).all fun z=>Nat.ble z.length 1099511627776)=true by
     rw [Bool.and_eq_true,List.all_eq_true]
     refine ⟨Nat.ble_eq_true_of_le (by rw [List.length_map];omega),fun z hz=>Nat.ble_eq_true_of_le ?_⟩
     obtain ⟨x,_,rfl⟩:=List.mem_map.1 hz
     simp only [proj,List.length_map];omega]
    simp only [cond_true,Option.bind_some]
    rw [decide_eq_true (zmz _)]
    rfl
   rw [F107.L3.succ,ite'_f (lt_f (by omega)),e75]
   rfl
  | succ m ih =>
   intro i n hm hn
   obtain ⟨n,rfl⟩:∃ j,n=j+1:=⟨n - 1,by omega⟩
   have hi:i < all.length:=by omega
   have hg:=List.getElem?_eq_getElem hi
   have h5:=hl _ (List.getElem_mem hi)
   have hfl:((all.take i).filter p).length≤(all.take i).length:=List.length_filter_le _ _
   rw [List.length_take] at hfl
   have hnx:=ih (i+1) n (by omega) (by omega)
   rw [zhh hi] at hnx
   rw [F107.L3.succ,ite'_t (lt_t hi),zA,ite'_t (zn hi),LL_c hg,zh,hp _ (List.getElem_mem hi),bB]
   cases hpi:p all[i] with
   | false =>
    rw [hpi] at hnx
    simp only [Bool.false_eq_true,if_false,List.append_nil] at hnx
    rw [ite'_nf,zy hi (m:=all.length) (by omega)]
    exact hnx
   | true =>
    rw [hpi] at hnx
    simp only [if_true,List.map_append,List.map_cons,List.map_nil] at hnx
    rw [ite'_nt,zl]
    have:=inner (((all.take i).filter p).map (proj q)) i all[i] h5 hi (by rw [List.length_map];omega) q.length 0 (k+1) n (by omega) (by omega)
    rw [List.take_zero,List.map_nil,show ((0:Nat):Int)=0 from rfl] at this
    rw [show F107.L8 (k+1) (C (k+1)) n (k+1) f caps (I1 all[i]) (all.length:Int) (i:Int) (I1 q) (q.length:Int) 0 (I1 q) X (LL (((all.take i).filter p).map (proj q))) [] (LL all)=_ from this]
    exact hnx
 exact main all.length 0 (k+1) (by omega) (by omega)
theorem c106 (l:BL) (row:List Int) (hs:SSL l) (hl:l.length≤27000) (hx:∀ x∈l,x.length≤3) (hk:2000000≤k) :
  ∃ r ws,C (k+2) 106 [.d (.list 1 (LL l)),.d (.list 1 (I1 row))]=some r∧resL 1 1 false 1 r 0 0=some (LL ws)∧(∀ z,z∈ws↔z∈l∨z=row)∧ws.length≤l.length+1∧SSL ws:=by
 have hmax:(1048576:Nat)≤maxLen:=by decide
 rw [F106.run]
 have ins:∀ i:Nat,i≤l.length→row ∉ l→(∀ j y,j < i→l[j]? = some y→ltL y row=true)→(∀ y,l[i]? = some y→ltL y row=false)→∃ r ws,(ite' (inS (i:Int) ((LL l).length:Int) (LL l).length) (ite' (fits ([[D.list 1 (I1 row)]].length+(List.drop (i:Int).toNat (LL l)).length)) (ite' (inS (0:Int) (i:Int) (LL l).length) (ite' (fits (List.take (i:Int).toNat (LL l)).length) (ite' (fits ((List.take (i:Int).toNat (LL l)).length+List.length ([[D.list 1 (I1 row)]]++List.drop (i:Int).toNat (LL l)))) (some ([(false,[RL.row 39 1 (List.take (i:Int).toNat (LL l)++([[D.list 1 (I1 row)]]++List.drop (i:Int).toNat (LL l)))])])) (none)) (none)) (none)) (none)) (none))=some r∧resL 1 1 false 1 r 0 0=some (LL ws)∧(∀ z,z∈ws↔z∈l∨z=row)∧ws.length≤l.length+1∧SSL ws:=by
  intro i hi hnm hlt hge
  rw [Int.toNat_natCast,zA,ite'_t (by simp only [inS,decide_eq_true_eq];omega),ite'_t (zS (by rw [List.length_drop,zA];simp;omega)),ite'_t (by simp only [inS,decide_eq_true_eq];omega),ite'_t (zS (by rw [List.length_take,zA];omega)),ite'_t (zS (by rw [List.length_take,List.length_append,List.length_drop,zA];simp;omega))]
  refine ⟨_,l.take i++(row::l.drop i),rfl,?_,fun z=>?_,?_,zot hs hnm hlt hge⟩
  ·rw [zkj]
   simp [LL]
  ·rw [List.mem_append,List.mem_cons]
   have:z∈l↔z∈l.take i∨z∈l.drop i:=by rw [← List.mem_append,List.take_append_drop]
   rw [this]
   constructor
   ·rintro (h | h | h)
    ·exact .inl (.inl h)
    ·exact .inr h
    ·exact .inl (.inr h)
   ·rintro ((h | h) | h)
    ·exact .inl h
    ·exact .inr (.inr h)
    ·exact .inr (.inl h)
  ·simp only [List.length_append,List.length_cons,List.length_take,List.length_drop];omega
 have nin:∀ i:Nat,i≤l.length→(∀ j y,j < i→l[j]? = some y→ltL y row=true)→(∀ y,l[i]? = some y→ltL row y=true)→row ∉ l:=by
  intro i hi h1 h2 hm
  obtain ⟨j,hj⟩:=List.mem_iff_getElem?.1 hm
  by_cases hji:j < i
  ·exact zfN (h1 j row hji hj) rfl
  ·have hjl:=(List.getElem?_eq_some_iff.1 hj).1
   have e:=(List.getElem?_eq_some_iff.1 hj).2
   have h3:=h2 l[i] (List.getElem?_eq_getElem (by omega))
   by_cases hij:i=j
   ·subst hij
    rw [e] at h3
    exact zfN h3 rfl
   ·have:=List.pairwise_iff_getElem.1 hs i j (by omega) hjl (by omega)
    rw [e] at this
    rw [ziW this] at h3
    cases h3
 have main:∀ (m i n:Nat),i+m=l.length→m < n→(∀ j y,j < i→l[j]? = some y→ltL y row=true)→∃ r ws,F106.L2 (k+1) (C (k+1)) n (LL l) (I1 row) (i:Int)=some r∧resL 1 1 false 1 r 0 0=some (LL ws)∧(∀ z,z∈ws↔z∈l∨z=row)∧ws.length≤l.length+1∧SSL ws:=by
  intro m
  induction m with
  | zero =>
   intro i n hm hn hlt
   obtain ⟨n,rfl⟩:∃ j,n=j+1:=⟨n - 1,by omega⟩
   obtain rfl:i=l.length:=by omega
   have hno:∀ y,l[l.length]? = some y→False:=fun y h=>by rw [List.getElem?_eq_none (Nat.le_refl _)] at h;cases h
   have h0:decide (((l.length:Nat):Int) < ((LL l).length:Int))=false:=by rw [zA];exact lt_f (by omega)
   rw [F106.L2.succ,h0,ite'_f rfl,ite'_f rfl]
   exact ins l.length (Nat.le_refl _) (nin l.length (Nat.le_refl _) hlt fun y h=>(hno y h).elim) hlt fun y h=>(hno y h).elim
  | succ m ih =>
   intro i n hm hn hlt
   obtain ⟨n,rfl⟩:∃ j,n=j+1:=⟨n - 1,by omega⟩
   have hi:i < l.length:=by omega
   have hg:=List.getElem?_eq_getElem hi
   have hxl:=hx _ (List.getElem_mem hi)
   have h0:decide ((i:Int) < ((LL l).length:Int))=true:=by rw [zA];exact lt_t hi
   have h1:inR (i:Int) (LL l).length=true:=by rw [zA];exact zn hi
   rw [F106.L2.succ,h0,ite'_t rfl,h1,ite'_t rfl,LL_c hg,zh,c179 (k:=k) l[i] row (by omega) (by omega),iB']
   by_cases hc:cmpI l[i] row < 0
   ·rw [ite'_t (by simpa using hc),zy hi (m:=l.length) (by omega)]
    refine ih (i+1) n (by omega) (by omega) fun j y hj hy=>?_
    by_cases hji:j=i
    ·subst hji
     rw [hg] at hy
     cases hy
     rw [zhs] at hc
     exact decide_eq_true hc
    ·exact hlt j y (by omega) hy
   ·rw [ite'_f (by simpa using hc),ite'_t rfl,ite'_t rfl,zh,c179 (k:=k) l[i] row (by omega) (by omega),iB']
    by_cases he:cmpI l[i] row=0
    ·rw [ite'_t (by simpa using he)]
     refine ⟨_,l,rfl,zbI _ _,fun z=>?_,by omega,hs⟩
     constructor
     ·exact fun h=>.inl h
     ·rintro (h | rfl)
      ·exact h
      ·rw [← (zbR _ _).1 he];exact List.getElem_mem hi
    ·rw [ite'_f (by simpa using he)]
     have hge:ltL l[i] row=false:=by
      rw [zhs] at hc
      exact decide_eq_false hc
     have hgt:ltL row l[i]=true:=by
      rcases ziv l[i] row with h | h | h
      ·rw [h] at hge;cases hge
      ·exact absurd ((zbR _ _).2 h) he
      ·exact h
     exact ins i (by omega) (nin i (by omega) hlt fun y hy=>by rw [hg] at hy;cases hy;exact hgt) hlt fun y hy=>by rw [hg] at hy;cases hy;exact hge
 exact main l.length 0 (k+1) (by omega) (by omega) (fun j y hj=>by omega)
theorem l31 (all:BL) (q:List Int) (X:Ovi.Rows) (hall:all.length≤27000) (hl:∀ x∈all,x.length=5) (hq:∀ v∈q,0≤v∧v < 5) (hq3:q.length≤3) (hk:2000000≤k) :
  ∃ ws,F31.L6 (k+2) (C (k+2)) (k+2) [] 0 (I1 q) X (LL all)=some [(false,[.d (.list 1 (LL ws))])]∧(∀ z,z∈ws↔z∈all.map (proj q))∧ws.length≤27000∧SSL ws:=by
 have hmax:(1048576:Nat)≤maxLen:=by decide
 have inner:∀ (out:BL) (i:Nat) (hi:i < all.length),∀ (m j n k6:Nat),j+m=q.length→m < n →
   F31.L10 (k+2) (C (k+2)) k6 n (LL out) (i:Int) (j:Int) (I1 q) X (LL all) (I1 ((q.take j).map fun v=>(all[i]).getD v.toNat 0)) =
   za (C (k+2) 106 [.d (.list 1 (LL out)),.d (.list 1 (I1 (proj q all[i])))]) fun r15=>zc (resL 1 1 false 1 r15 0 0) fun l16=>F31.L6 (k+2) (C (k+2)) k6 l16 ((i+1:Nat):Int) (I1 q) X (LL all):=by
  intro out i hi m
  induction m with
  | zero =>
   intro j n k6 hm hn
   obtain ⟨n,rfl⟩:∃ p,n=p+1:=⟨n - 1,by omega⟩
   obtain rfl:j=q.length:=by omega
   rw [F31.L10.succ,zl,ite'_f (lt_f (by omega)),List.take_length,zy hi (m:=all.length) (by omega)]
   rfl
  | succ m ih =>
   intro j n k6 hm hn
   obtain ⟨n,rfl⟩:∃ p,n=p+1:=⟨n - 1,by omega⟩
   have hj:j < q.length:=by omega
   have hg:=List.getElem?_eq_getElem hj
   have hb:=hl _ (List.getElem_mem hi)
   obtain ⟨h1,h2⟩:=hq _ (List.getElem_mem hj)
   obtain ⟨p,hp⟩:∃ p:Nat,q[j]=(p:Int):=⟨q[j].toNat,by omega⟩
   have hp5:p < (all[i]).length:=by omega
   have hbp:(all[i])[p]? = some ((all[i]).getD p 0):=by rw [List.getD_eq_getElem?_getD,List.getElem?_eq_getElem hp5];rfl
   have:=ih (j+1) n k6 (by omega) (by omega)
   rw [List.take_succ_eq_append_getElem hj,List.map_append] at this
   rw [F31.L10.succ,zl,ite'_t (lt_t hj),zA,ite'_t (zn hi),LL_c (List.getElem?_eq_getElem hi),zh,ite'_t (zn hj),I1_c hg,ze,hp,zl,ite'_t (zn hp5),I1_c hbp,ze,zl,ite'_t (zS (by simp only [List.length_map,List.length_take,List.length_cons,List.length_nil];omega)),zy hj (m:=q.length) (by omega),zbK,← this]
   rw [List.map_cons,List.map_nil,hp,Int.toNat_natCast]
 have main:∀ (m i n:Nat) (acc:BL),i+m=all.length→m < n→acc.length≤i→(∀ x∈acc,x.length≤3)→SSL acc→∃ ws,F31.L6 (k+2) (C (k+2)) n (LL acc) (i:Int) (I1 q) X (LL all)=some [(false,[.d (.list 1 (LL ws))])]∧(∀ z,z∈ws↔z∈acc∨z∈(all.drop i).map (proj q))∧ws.length≤27000∧SSL ws:=by
  intro m
  induction m with
  | zero =>
   intro i n acc hm hn ha hx hsa
   obtain ⟨n,rfl⟩:∃ j,n=j+1:=⟨n - 1,by omega⟩
   obtain rfl:i=all.length:=by omega
   rw [F31.L6.succ,zA,ite'_f (lt_f (by omega)),List.drop_length]
   exact ⟨acc,rfl,by simp,by omega,hsa⟩
  | succ m ih =>
   intro i n acc hm hn ha hx hsa
   obtain ⟨n,rfl⟩:∃ j,n=j+1:=⟨n - 1,by omega⟩
   have hi:i < all.length:=by omega
   obtain ⟨r,ws,e1,e2,e3,e4,e5⟩:=c106 (k:=k) acc (proj q all[i]) hsa (by omega) hx hk
   have:=inner acc i hi q.length 0 (k+2) n (by omega) (by omega)
   rw [List.take_zero,List.map_nil,show ((0:Nat):Int)=0 from rfl,e1,zj,e2,zh] at this
   rw [F31.L6.succ,zA,ite'_t (lt_t hi),show F31.L10 (k+2) (C (k+2)) n (k+2) (LL acc) (i:Int) 0 (I1 q) X (LL all) []=_ from this]
   obtain ⟨ws2,g1,g2,g3,g4⟩:=ih (i+1) n ws (by omega) (by omega) (by omega) (fun x h=>by
    rcases (e3 x).1 h with h | rfl
    ·exact hx x h
    ·simp only [proj,List.length_map];omega) e5
   refine ⟨ws2,g1,fun z=>?_,g3,g4⟩
   rw [g2,e3,List.drop_eq_getElem_cons hi,List.map_cons,List.mem_cons]
   constructor
   ·rintro ((h | h) | h)
    ·exact .inl h
    ·exact .inr (.inl h)
    ·exact .inr (.inr h)
   ·rintro (h | h | h)
    ·exact .inl (.inl h)
    ·exact .inl (.inr h)
    ·exact .inr h
 obtain ⟨ws,g1,g2,g3,g4⟩:=main all.length 0 (k+2) [] (by omega) (by omega) (Nat.zero_le _) (by simp) List.Pairwise.nil
 exact ⟨ws,g1,fun z=>by rw [g2];simp,g3,g4⟩
end Go.Proofs.YthicohakeljdcaaGreat.Q
namespace Go.Proofs.YthicohakeljdcaaGreat.Q
open Go Ovi
variable {k:Nat}
theorem c162 {a:Ovi.Rows} {xs:List Atom} {valid:Atom→Bool} (hv:zco a xs valid) (hk:2000000≤k) (ha:a.length≤1048576) (hs:zF xs+xs.length≤1048576) :
  C (k+9) 162 [.d (.list 3 a),.d (.list 2 (A1 xs)),.d (.int .i64 3)]=bo (decide ((1:Int)≤(xs.length:Int)∧(xs.length:Int)≤3)&&xs.all valid):=by
 have hmax:(1048576:Nat)≤maxLen:=by decide
 rw [F162.run,c73,bB,zo]
 cases decide ((1:Int)≤(xs.length:Int)∧(xs.length:Int)≤3) with
 | false=>rfl
 | true =>
  rw [ite'_t rfl,c217 (k:=k+6) xs 218 [[.list 3 a]] (fun x=>!valid x) (by omega) (by omega) (fun x hx=>by
   have:=zaa hx
   rw [List.map_cons,List.map_nil,F218.run,(hv x hx k (by omega) (by omega)).1,bB];rfl),bB]
  exact zar (zbu xs valid)
structure Qok (a:Ovi.Rows) (fs xs:List Atom) (valid:Atom→Bool) (ib:Bool):Prop where
 ha:a.length≤1048576
 hs:zF xs+xs.length≤1048576
 hv:zco a xs valid
 h1:1≤xs.length
 h3:xs.length≤3
 all:∀ x∈xs,valid x=true
 inst:∀ k,2000000≤k→C (k+8) 100 [.agg [.d (.list 3 a),.d (.list 2 (A1 fs))]]=bo ib∧C (k+8) 67 [.agg [.d (.list 3 a),.d (.list 2 (A1 fs))]]=bo ib
 mok:ib=true→Mok fs xs
variable {a:Ovi.Rows} {fs xs:List Atom} {valid:Atom→Bool} {ib:Bool}
theorem c230 (h:Qok a fs xs valid ib) (hk:2000000≤k):C (k+15) 230 [.agg [.d (.list 3 a),.d (.list 2 (A1 fs))],.d (.list 2 (A1 xs))]=bo ib:=by
 rw [F230.run,(h.inst (k+6) (by omega)).1,bB]
 cases ib with
 | false=>rfl
 | true =>
  have:=h.h1
  have h13:decide ((1:Int)≤(xs.length:Int)∧(xs.length:Int)≤3)=true:=decide_eq_true (by have:=h.h3;omega)
  rw [ite'_t rfl,zo,ite'_f (beq_eq_false_iff_ne.2 (by omega)),c162 (k:=k+5) h.hv (by omega) h.ha h.hs,bB,h13,List.all_eq_true.2 h.all]
  rfl
theorem c176 (h:Qok a fs xs valid ib) (hk:2000000≤k):C (k+16) 176 [.agg [.d (.list 3 a),.d (.list 2 (A1 fs))],.d (.list 2 (A1 xs))]=bo ib:=by
 have hmax:(1048576:Nat)≤maxLen:=by decide
 have h3:=h.h3
 rw [F176.run]
 have:=zbc (xs:=xs) (L:=fun n i=>F176.L2 (k+15) (C (k+15)) n (A1 xs) i a (A1 fs)) (stop:=fun x=>!valid x) (hit:=bo false) (fin:=bo ib)
  (fun n i x hx=>by
   have hi:=(List.getElem?_eq_some_iff.1 hx).1
   have hxm:=List.mem_of_getElem? hx
   have hl:=zaa hxm
   have hs:=h.hs
   have ha:=h.ha
   rw [F176.L2.succ,zo,ite'_t (lt_t hi),ite'_t (zn hi),zaT hx,ze,zaU hx,zh,(h.hv x hxm (k+10) (by omega) (by omega)).2,bB,zy hi (m:=xs.length) (by omega)];rfl)
  (fun n=>by
   rw [F176.L2.succ,zo,ite'_f (lt_f (by omega)),(h.inst (k+7) (by omega)).2,bB]
   cases ib with
   | false=>rfl
   | true=>rw [ite'_t rfl,decide_eq_true (by omega)];rfl) (k+15) (by omega)
 rw [show F176.L2 (k+15) (C (k+15)) (k+15) (A1 xs) 0 a (A1 fs)=_ from this]
 have hf:(xs.any fun x=>!valid x)=false:=by
  rw [List.any_eq_false]
  intro x hx
  rw [h.all x hx];decide
 rw [hf];rfl
def mtc (fs xs:List Atom):BL:=ded [] (mats fs xs tens)
theorem zeQ (h:Mok fs xs):(mats fs xs tens).length≤27000∧∀ x∈mats fs xs tens,x.length=5:=⟨h.lens tens,fun x hx=>by rw [zj9 fs xs tens x hx];rfl⟩
theorem zeT (h:Mok fs xs):(mtc fs xs).length≤27000∧∀ x∈mtc fs xs,x.length=5:=by
 obtain ⟨h1,h2⟩:=zeQ h
 unfold mtc
 refine ⟨?_,fun x hx=>?_⟩
 ·have:=zkQ (mats fs xs tens) []
  simp only [List.length_nil] at this
  omega
 ·rcases (zgd _ _ _).1 hx with h | h
  ·cases h
  ·exact h2 x h
def mtr (ib:Bool) (fs xs:List Atom):Option Res:=cond ib (some [(false,[.row 39 1 (LL (mtc fs xs))])]) (some [(false,[.nil])])
theorem c180 (h:Qok a fs xs valid ib) (hk:2000000≤k):C (k+16) 180 [.agg [.d (.list 3 a),.d (.list 2 (A1 fs))],.d (.list 2 (A1 xs))]=mtr ib fs xs:=by
 rw [F180.run,c230 h hk,bB]
 cases ib with
 | false=>rfl
 | true =>
  have hm:=h.mok rfl
  have h3:=h.h3
  obtain ⟨h1,h2⟩:=zeQ hm
  obtain ⟨j,hj,hj2⟩:∃ j,k+15=j+xs.length+3∧2000000≤j:=⟨k+12 - xs.length,by omega,by omega⟩
  have e105:C (k+15) 231 [.d (.list 2 (A1 fs)),.d (.list 2 (A1 xs)),.d (.list 1 (I1 tens))]=some [(false,[.row 39 1 (LL (mats fs xs tens))])]:=by
   rw [hj];exact c231 hj2 xs hm tens rfl
  rw [ite'_nt,c232 (k:=k+13)]
  simp only [zj,zt,zh]
  rw [e105]
  simp only [zj,zt,zh]
  rw [zA]
  exact l180 (k:=k+10) _ h1 h2 (by omega)
theorem c105 (h:Qok a fs xs valid ib) (hk:2000000≤k):C (k+17) 105 [.agg [.d (.list 3 a),.d (.list 2 (A1 fs))],.d (.list 2 (A1 xs))]=mtr ib fs xs:=by
 rw [F105.run,c176 h hk,bB]
 cases ib with
 | false=>rfl
 | true =>
  have hm:=h.mok rfl
  have h3:=h.h3
  obtain ⟨h1,h2⟩:=zeQ hm
  have e71:C (k+16) 177 [.agg [.d (.list 3 a),.d (.list 2 (A1 fs))],.d (.list 2 (A1 xs)),.d (.int .i64 0),.d (.list 1 (I1 tens))]=some [(false,[.row 39 1 (LL (mats fs xs tens))])]:=by
   have:=c177 (a:=a) hm (k:=k+13 - xs.length) (by omega) xs.length 0 (by omega) tens rfl
   rw [show k+13 - xs.length+xs.length+3=k+16 by omega] at this
   exact this
  rw [ite'_nt,c178 (k:=k+14) (by omega)]
  simp only [zj,zt,zh]
  rw [e71]
  simp only [zj,zt,zh]
  exact l105 (k:=k+15) _ h1 h2 (by omega)
def ans (p:List Int→Bool) (ib:Bool) (fs xs:List Atom) (q:List Int):BL:=cond ib (((mtc fs xs).filter p).map (proj q)) []
theorem zhX:resO 39 1 1 false 1 [(false,[RL.nil])] 0 0=some []:=rfl
theorem zlC:resL 1 1 false 1 [(false,[RL.nil])] 0 0=some []:=rfl
theorem c107 (h:Qok a fs xs valid ib) (q:List Int) (hq:∀ v∈q,0≤v∧v < 5) (hq3:q.length≤3) (hk:2000000≤k) (f:FuncId) (caps:Ovi.Rows) (p:List Int→Bool) (hp:∀ x∈mtc fs xs,ib=true→C (k+16) f (.d (.list 1 (I1 x))::[].append (caps.map fun c:List D=>.cap c 0))=bo (p x)) :
  C (k+17) 107 [.agg [.d (.list 3 a),.d (.list 2 (A1 fs))],.agg [.d (.list 1 (I1 q)),.d (.list 2 (A1 xs))],.d (.fn f caps)]=some [(false,[.frow 39 1 1 (LL (Lib.compact (zz (ans p ib fs xs q))))])]:=by
 rw [F107.run,c180 h hk]
 unfold mtr ans
 cases ib with
 | false =>
  simp only [cond_false,zj,zhX,zh]
  exact l107 (k:=k+15) [] q (A1 xs) f caps p (by simp) (by simp) (by simp) hq hq3 (by omega)
 | true =>
  obtain ⟨h1,h2⟩:=zeT (h.mok rfl)
  simp only [cond_true,zj,zt,zh]
  rw [zA]
  exact l107 (k:=k+15) (mtc fs xs) q (A1 xs) f caps p (fun x hx=>hp x hx rfl) h1 h2 hq hq3 (by omega)
theorem l31' (h:Qok a fs xs valid ib) (q:List Int) (hq:∀ v∈q,0≤v∧v < 5) (hq3:q.length≤3) (hk:2000000≤k):∃ ws,(za (C (k+17) 105 [.agg [.d (.list 3 a),.d (.list 2 (A1 fs))],.d (.list 2 (A1 xs))]) fun r8=>zc (resO 39 1 1 false 1 r8 0 0) fun l25=>F31.L6 (k+17) (C (k+17)) (k+17) [] 0 (I1 q) (A1 xs) l25)=some [(false,[.d (.list 1 (LL ws))])]∧(∀ z,z∈ws↔z∈ans (fun _=>true) ib fs xs q)∧ws.length≤27000∧SSL ws:=by
 rw [c105 h hk]
 unfold mtr ans
 cases ib with
 | false =>
  simp only [cond_false,zj,zhX,zh]
  exact l31 (k:=k+15) [] q (A1 xs) (by simp) (by simp) hq hq3 (by omega)
 | true =>
  obtain ⟨h1,h2⟩:=zeT (h.mok rfl)
  simp only [cond_true,zj,zt,zh]
  rw [show (mtc fs xs).filter (fun _=>true)=mtc fs xs from List.filter_eq_self.2 fun _ _=>rfl]
  exact l31 (k:=k+15) (mtc fs xs) q (A1 xs) h1 h2 hq hq3 (by omega)
theorem znJ (p:List Int→Bool) (hm:ib=true→Mok fs xs) (q:List Int):(ans p ib fs xs q).length≤27000∧∀ x∈ans p ib fs xs q,x.length=q.length:=by
 unfold ans
 cases ib with
 | false=>simp
 | true =>
  obtain ⟨h1,h2⟩:=zeT (hm rfl)
  have hfl:((mtc fs xs).filter p).length≤(mtc fs xs).length:=List.length_filter_le _ _
  refine ⟨by rw [cond_true,List.length_map];omega,fun x hx=>?_⟩
  obtain ⟨b,_,rfl⟩:=List.mem_map.1 hx
  simp [proj]
theorem set_mem' {b:List Int} {i:Nat} {v z:Int} (h:z∈b.set i v):z∈b∨z=v:=List.mem_or_eq_of_mem_set h
theorem zkS:∀ (ts vs b b':List Int),fitS ts vs b=some b'→∀ z∈b',z∈b∨z∈vs
 | [],_,b,b',h,z,hz=>by simp only [fitS] at h;cases h;exact .inl hz
 | t::ts,[],b,b',h,z,hz=>by simp only [fitS] at h;cases h;exact .inl hz
 | t::ts,v::vs,b,b',h,z,hz=>by
  have go:∀ b1,fitS ts vs b1=some b'→(∀ y∈b1,y∈b∨y=v)→z∈b∨z∈v::vs:=fun b1 h1 h2=>by
   rcases zkS ts vs b1 b' h1 z hz with h | h
   ·rcases h2 z h with h | rfl
    ·exact .inl h
    ·exact .inr List.mem_cons_self
   ·exact .inr (List.mem_cons_of_mem _ h)
  rw [fitS] at h
  split at h
  ·split at h
   ·exact go b h fun y hy=>.inl hy
   ·cases h
  ·split at h
   ·exact go _ h fun y hy=>set_mem' hy
   ·split at h
    ·exact go b h fun y hy=>.inl hy
    ·cases h
theorem ziw (fs:List Atom):∀ (xs:List Atom) (b c:List Int),c∈mats fs xs b→∀ z∈c,z∈b∨∃ f∈fs,z∈f.2
 | [],b,c,h,z,hz=>by rw [mats,List.mem_singleton] at h;subst h;exact .inl hz
 | x::xs,b,c,h,z,hz=>by
  rw [mats,List.mem_flatMap] at h
  obtain ⟨f,hf,hc⟩:=h
  cases hb:fitA x f b with
  | none=>rw [hb] at hc;simp at hc
  | some b' =>
   rw [hb] at hc
   rcases ziw fs xs b' c (by simpa using hc) z hz with h | h
   ·unfold fitA at hb
    split at hb
    ·rcases zkS _ _ _ _ hb z h with h | h
     ·exact .inl h
     ·exact .inr ⟨f,hf,h⟩
    ·cases hb
   ·exact .inr h
theorem zoO (p:List Int→Bool) (hI:∀ x∈fs,∀ z∈x.2,inI z) (q:List Int):∀ x∈ans p ib fs xs q,∀ z∈x,inI z:=by
 intro x hx z hz
 unfold ans at hx
 cases ib with
 | false=>cases hx
 | true =>
  obtain ⟨b,hb,rfl⟩:=List.mem_map.1 hx
  replace hb:=(List.mem_filter.1 hb).1
  unfold mtc at hb
  rcases (zgd _ _ _).1 hb with h | h
  ·cases h
  ·obtain ⟨v,_,rfl⟩:=List.mem_map.1 hz
   rw [List.getD_eq_getElem?_getD]
   cases hg:b[v.toNat]? with
   | none=>exact ⟨by decide,by decide⟩
   | some y =>
    rcases ziw fs xs tens b h y (List.mem_of_getElem? hg) with h | ⟨f,hf,h⟩
    ·have:y=10:=by simpa [tens] using h
     subst this
     exact ⟨by decide,by decide⟩
    ·exact hI f hf y h
structure Good3 (ws:BL):Prop where
 ss:SSL ws
 len:ws.length≤27000
 short:∀ x∈ws,x.length≤3
 int:∀ x∈ws,∀ z∈x,inI z
theorem qok {a:Ovi.Rows} (ha:Fit Rl (.list 3 a)) {fs xs:List Atom} {q:List Int} {valid:Atom→Bool} {ib:Bool} (hval:∀ x∈xs,valid x=true→(0≤x.1∧x.1 < (a.length:Int))∧(x.2.length:Int)=ar a x.1∧∀ t∈x.2, -10≤t∧t≤4) (hv:zco a xs valid)
  (hib:ib=true→fs.length≤30∧∀ x∈fs,(0≤x.1∧x.1 < (a.length:Int))∧(x.2.length:Int)=ar a x.1) (hinst:∀ k,2000000≤k→C (k+8) 100 [.agg [.d (.list 3 a),.d (.list 2 (A1 fs))]]=bo ib∧C (k+8) 67 [.agg [.d (.list 3 a),.d (.list 2 (A1 fs))]]=bo ib)
  (hal:a.length≤1048576) (hs:zF xs+xs.length≤1048576) (h:qOk valid xs q=true):Qok a fs xs valid ib∧(∀ v∈q,0≤v∧v < 5)∧q.length≤3:=by
 unfold qOk at h
 simp only [Bool.and_eq_true,decide_eq_true_eq,List.all_eq_true] at h
 obtain ⟨⟨⟨h1,h2⟩,h3⟩,h4,h5⟩:=h
 have hvar:∀ v∈q,zY xs v:=fun v hvm=>by
  have:=h5 v hvm
  unfold vB at this
  exact @of_decide_eq_true _ (Classical.propDecidable _) this
 refine ⟨⟨hal,hs,hv,by omega,by omega,h3,hinst,fun hb=>?_⟩,fun v hvm=>?_,by omega⟩
 ·obtain ⟨g1,g2⟩:=hib hb
  refine ⟨g1,by omega,fun x hx=>⟨(hval x hx (h3 x hx)).2.2,by have:=zaa hx;omega⟩,fun x hx f hf hxf=>?_⟩
  have p1:=(hval x hx (h3 x hx)).2.1
  have p2:=(g2 f hf).2
  rw [← hxf] at p2
  omega
 ·obtain ⟨g1,x,hx,hz⟩:=hvar v hvm
  have:=(hval x hx (h3 x hx)).2.2 v hz
  omega
theorem zlB:resF 39 1 1 1 false 1 [(false,[RL.nil])] 0 0=some []:=rfl
theorem zj0:Good3 []:=⟨List.Pairwise.nil,by simp,by simp,by simp⟩
theorem zmP (p:List Int→Bool) (hm:ib=true→Mok fs xs) (hI:∀ x∈fs,∀ z∈x.2,inI z) (q:List Int) (hq3:q.length≤3):Good3 (Lib.compact (zz (ans p ib fs xs q))):=by
 obtain ⟨k1,k2⟩:=znJ p hm q
 have hml:∀ x,x∈Lib.compact (zz (ans p ib fs xs q))↔x∈ans p ib fs xs q:=fun x=>by rw [zct,zcW]
 have hcl:=zbS (zz (ans p ib fs xs q))
 rw [zbJ] at hcl
 exact ⟨zgZ _,by omega,fun x hx=>by rw [k2 x ((hml x).1 hx)];exact hq3,fun x hx=>zoO p hI q x ((hml x).1 hx)⟩
theorem zpL {a:Ovi.Rows} (ha:Fit Rl (.list 3 a)) (fs xs:List Atom) (q:List Int) (hI:∀ x∈fs,∀ z∈x.2,inI z) (hal:a.length≤1048576) (hfs:zF fs+fs.length≤1048576) (hs:zF xs+xs.length≤1048576) (hq:q.length≤1048576) :
  ∃ ws R1 R2,Good3 ws∧resL 1 1 false 1 R1 0 0=some (LL ws)∧resF 39 1 1 1 false 1 R2 0 0=some (LL ws)∧∀ k,2000000≤k→C (k+20) 31 [.agg [.d (.list 3 a),.d (.list 2 (A1 fs))],.agg [.d (.list 1 (I1 q)),.d (.list 2 (A1 xs))]]=some R1∧C (k+20) 32 [.agg [.d (.list 3 a),.d (.list 2 (A1 fs))],.agg [.d (.list 1 (I1 q)),.d (.list 2 (A1 xs))]]=some R2:=by
 obtain ⟨valid,hval,hv⟩:=zfd ha xs (fun x hx=>by
  have:=zaa hx
  have:(1048576:Nat)≤maxLen:=by decide
  omega)
 obtain ⟨ib,hib,hinst⟩:=zpP ha fs hI hfs hal
 have e89:∀ k,2000000≤k→C (k+19) 89 [.d (.list 3 a),.agg [.d (.list 1 (I1 q)),.d (.list 2 (A1 xs))]]=bo (qOk valid xs q):=fun k hk=>c89 (k:=k+9) (out:=q) hv (by omega) hal hs hq
 have e95:∀ k,2000000≤k→C (k+19) 95 [.d (.list 3 a),.agg [.d (.list 1 (I1 q)),.d (.list 2 (A1 xs))]]=bo (qOk valid xs q):=fun k hk=>c95 (k:=k+9) (out:=q) hv (by omega) hal hs hq
 cases hqo:qOk valid xs q with
 | false =>
  refine ⟨[],_,_,zj0,zlC,zlB,fun k hk=>⟨?_,?_⟩⟩
  ·rw [F31.run,e89 k hk,bB,hqo,ite'_nf]
  ·rw [F32.run,e95 k hk,bB,hqo,ite'_nf]
 | true =>
  obtain ⟨hQ,hq5,hq3⟩:=qok ha hval hv hib hinst hal hs hqo
  have hg:=zmP (ib:=ib) (xs:=xs) (fun _=>true) hQ.mok hI q hq3
  refine ⟨Lib.compact (zz (ans (fun _=>true) ib fs xs q)),[(false,[.d (.list 1 (LL (Lib.compact (zz (ans (fun _=>true) ib fs xs q)))))])],[(false,[.frow 39 1 1 (LL (Lib.compact (zz (ans (fun _=>true) ib fs xs q))))])],hg,zbI _ _,rfl,fun k hk=>⟨?_,?_⟩⟩
  ·obtain ⟨ws,g1,g2,g3,g4⟩:=l31' (k:=k+2) hQ q hq5 hq3 (by omega)
   have:ws=Lib.compact (zz (ans (fun _=>true) ib fs xs q)):=zmy g4 hg.ss fun z=>by rw [g2,zct,zcW]
   rw [F31.run,e89 k hk,bB,hqo,ite'_nt,← this]
   exact g1
  ·rw [F32.run,e95 k hk,bB,hqo,ite'_nt,c107 (k:=k+2) hQ q hq5 hq3 (by omega) 108 [] (fun _=>true) (fun x _ _=>by
    show C (k+18) 108 [.d (.list 1 (I1 x))]=_
    rw [F108.run];rfl)]
   rfl
end Go.Proofs.YthicohakeljdcaaGreat.Q
namespace Go.Proofs.YthicohakeljdcaaGreat.Q
open Go Ovi
variable {k:Nat}
def neg (t:Int):Int := -1 - t
def inst (x:Atom):Atom:=(x.1,x.2.map neg)
theorem znw {t:Int} (h : -10≤t∧t≤4):IntKind.i64.wrap (-1 - t)=neg t:=zad (by omega) (by omega)
theorem zhS {t:Int} (h : -10≤t∧t≤4):okV (neg t)=true:=by unfold okV neg;rw [decide_eq_true_eq];omega
theorem zpk {t:Int} (h : -10≤t∧t≤4):inI (neg t):=by unfold inI neg;omega
def okI (r:Int) (vs:List Int):Option Res:=some [(true,[.d (.int .i64 r),.row 3 1 (I1 vs)]),(false,[.d (.bool true)])]
theorem zny {r:Int} {vs:List Int} {f:Int→Ovi.Rows→Bool→Option Res}:(za (okI r vs) fun r16=>zf (resI .i64 2 true 2 r16 0 0) fun n17=>zc (resO 3 1 2 true 2 r16 0 1) fun l18=>zi (resB 2 false 1 r16 1 0) fun b19=>f n17 l18 b19)=f r (I1 vs) true:=rfl
theorem c221 (x:Atom) (hz:x.2.length≤1048576):C (k+2) 221 [.agg [.d (.int .i64 x.1),.d (.list 1 (I1 x.2))]]=some [(true,[.d (.int .i64 x.1),.row 3 1 (I1 x.2)])]:=by
 have e:C (k+1) 192 [.d (.list 1 (I1 x.2))]=some [(false,[.row 3 1 (I1 x.2)])]:=by
  have:C (k+1) 192 [.d (.list 1 (I1 x.2))]=zbv 3 [.d (.list 1 (I1 x.2))]:=by kernel_rfl
  rw [this]
  simp only [zbv,zbe]
  rw [show Nat.ble x.2.length 1099511627776=true from Nat.ble_eq_true_of_le (by omega)]
  rfl
 rw [F221.run,e]
 rfl
theorem zif (l:List Atom) (x:Atom):A1 l++[[D.int .i64 x.1,D.list 1 (I1 x.2)]]=A1 (l++[x]):=by simp [A1]
theorem znF (l:List Atom) (i:Nat):(A1 l).take i=A1 (l.take i):=by simp [A1]
theorem znE (l:List Atom) (i:Nat):(A1 l).drop i=A1 (l.drop i):=by simp [A1]
theorem c167 (xs:List Atom) (hx:∀ x∈xs,x.2.length≤1048576) (hl:xs.length≤1048576) (hk:2000000≤k):C (k+3) 167 [.d (.list 2 (A1 xs))]=some [(false,[.frow 118 2 1 (A1 xs)])]:=by
 have hmax:(1048576:Nat)≤maxLen:=by decide
 rw [F167.run,zo]
 have main:∀ (m i n:Nat),i+m=xs.length→m < n→F167.L3 (k+2) (C (k+2)) n (A1 xs) (xs.length:Int) (i:Int) (A1 (xs.take i))=some [(false,[.frow 118 2 1 (A1 xs)])]:=by
  intro m
  induction m with
  | zero =>
   intro i n hm hn
   obtain ⟨n,rfl⟩:∃ j,n=j+1:=⟨n - 1,by omega⟩
   obtain rfl:i=xs.length:=by omega
   rw [F167.L3.succ,ite'_f (lt_f (by omega)),List.take_length]
  | succ m ih =>
   intro i n hm hn
   obtain ⟨n,rfl⟩:∃ j,n=j+1:=⟨n - 1,by omega⟩
   have hi:i < xs.length:=by omega
   have hg:=List.getElem?_eq_getElem hi
   have:=ih (i+1) n (by omega) (by omega)
   rw [List.take_succ_eq_append_getElem hi] at this
   rw [F167.L3.succ,ite'_t (lt_t hi),zo,ite'_t (zn hi),zaT hg,ze,zaU hg,zh,c221 (k:=k) xs[i] (hx _ (List.getElem_mem hi))]
   show ite' (fits ((A1 (xs.take i)).length+[[D.int IntKind.i64 (xs[i]).1,D.list 1 (I1 (xs[i]).2)]].length)) (F167.L3 (k+2) (C (k+2)) n (A1 xs) (xs.length:Int) (IntKind.i64.wrap ((i:Int)+1)) (A1 (xs.take i)++[[D.int IntKind.i64 (xs[i]).1,D.list 1 (I1 (xs[i]).2)]])) none=_
   rw [ite'_t (zS (by rw [zo,List.length_take];simp only [List.length_cons,List.length_nil];omega)),zy hi (m:=xs.length) (by omega),zif]
   exact this
 exact main xs.length 0 (k+2) (by omega) (by omega)
def can (xs:List Atom):List Atom:=Lib.compact (z7 xs)
theorem zkM (xs:List Atom):(can xs).length≤xs.length:=by
 have:=zdq (z7 xs)
 rw [zb8] at this
 exact this
theorem zbM (xs:List Atom) (z:Atom):z∈can xs↔z∈xs:=by unfold can;rw [zka,zfi]
theorem zgA {l:List Atom} (hl:l.length≤1048576) (hx:∀ x∈l,x.2.length≤1048576):(Nat.ble l.length 1099511627776&&l.all fun z=>Nat.ble z.2.length 1099511627776)=true:=by
 rw [Bool.and_eq_true,List.all_eq_true]
 exact ⟨Nat.ble_eq_true_of_le (by omega),fun z hz=>Nat.ble_eq_true_of_le (by have:=hx z hz;omega)⟩
theorem zlX (xs:List Atom):(can xs).Nodup:=(zd2 xs).imp fun {a b} h e=>by
 subst e
 rw [swoA.irrefl] at h
 cases h
theorem c99 (xs:List Atom) (hx:∀ x∈xs,x.2.length≤1048576) (hl:xs.length≤1048576) (hk:2000000≤k):C (k+4) 99 [.d (.list 2 (A1 xs))]=some [(false,[.frow 118 2 1 (A1 (can xs))])]:=by
 have e1:C (k+3) 168 [.var 0 0,.d (.int .i64 118),.d (.list 2 (A1 xs)),.d (.fn 169 [])]=some [(false,[.frow 118 2 1 (A1 (z7 xs))])]:=by
  have:C (k+3) 168 [.var 0 0,.d (.int .i64 118),.d (.list 2 (A1 xs)),.d (.fn 169 [])]=zdi 169 [.var 0 0,.d (.int .i64 118),.d (.list 2 (A1 xs)),.d (.fn 169 [])]:=by kernel_rfl
  rw [this]
  unfold zdi zbL
  simp only [zho,Option.bind_some]
  rw [zgA hl hx]
  rfl
 have e2:C (k+3) 170 [.var 0 0,.d (.int .i64 118),.d (.list 2 (A1 (z7 xs))),.d (.fn 171 [])]=some [(false,[.frow 118 2 1 (A1 (can xs))]),(true,[])]:=by
  have:C (k+3) 170 [.var 0 0,.d (.int .i64 118),.d (.list 2 (A1 (z7 xs))),.d (.fn 171 [])]=zdd 171 [.var 0 0,.d (.int .i64 118),.d (.list 2 (A1 (z7 xs))),.d (.fn 171 [])]:=by kernel_rfl
  rw [this]
  unfold zdd zbL
  simp only [zho,Option.bind_some]
  rw [zgA (by rw [zb8];exact hl) (fun x h=>hx x ((zfi _ _).1 h))]
  have hnd:=zlX xs
  unfold can at hnd ⊢
  simp only [show Nat.beq 171 171=true from rfl,cond_true,Option.bind_some,decide_eq_true hnd]
  rfl
 have r0:∀ l,resF 118 2 0 1 false 1 [(false,[.frow 118 2 1 l])] 0 0=some l:=fun _=>rfl
 rw [F99.run,c167 xs hx hl hk]
 simp only [zj,zK,zh]
 rw [e1]
 simp only [zj,r0,zh]
 rw [e2]
 rfl
theorem c98 {a:Ovi.Rows} (ha2:a.length≤1048576) (xs:List Atom) (hx:∀ x∈xs,x.2.length≤1048576) (hl:xs.length≤1048576) (hk:2000000≤k):C (k+4) 98 [.agg [.d (.list 3 a),.d (.list 2 (A1 xs))]]=some [(true,[.row 133 3 a,.frow 118 2 1 (A1 xs)])]:=by
 have e:C (k+3) 166 [.d (.list 3 a)]=some [(false,[.row 133 3 a])]:=by
  rw [zd4 (p:=zcC 133 3) rfl]
  unfold zcC
  simp only []
  rw [show Nat.ble (List.length a) 1099511627776=true from Nat.ble_eq_true_of_le (by omega)]
  rfl
 rw [F98.run,e]
 simp only [zj,zt,zh]
 rw [c167 xs hx hl hk]
 rfl
theorem c159 (x:Atom) (hz:x.2.length≤1048576):C (k+1) 159 [.agg [.d (.int .i64 x.1),.d (.list 1 (I1 x.2))]]=some [(true,[.d (.int .i64 x.1),.row 3 1 (I1 x.2)])]:=by
 have hmax:(1048576:Nat)≤maxLen:=by decide
 rw [F159.run,zl,ite'_t (zS (by omega))]
theorem c92 {a:Ovi.Rows} (ha2:a.length≤1048576) (xs:List Atom) (hx:∀ x∈xs,x.2.length≤1048576) (hl:xs.length≤1048576) (hk:2000000≤k):C (k+3) 92 [.agg [.d (.list 3 a),.d (.list 2 (A1 xs))]]=some [(true,[.row 133 3 a,.frow 118 2 1 (A1 xs)])]:=by
 have hmax:(1048576:Nat)≤maxLen:=by decide
 rw [F92.run,ite'_t (zS (by omega))]
 have main:∀ (m i n:Nat),i+m=xs.length→m < n→F92.L3 (k+2) (C (k+2)) n (i:Int) a (A1 xs) [] [] a (A1 (xs.take i))=some [(true,[.row 133 3 a,.frow 118 2 1 (A1 xs)])]:=by
  intro m
  induction m with
  | zero =>
   intro i n hm hn
   obtain ⟨n,rfl⟩:∃ j,n=j+1:=⟨n - 1,by omega⟩
   obtain rfl:i=xs.length:=by omega
   rw [F92.L3.succ,zo,ite'_f (lt_f (by omega)),List.take_length]
  | succ m ih =>
   intro i n hm hn
   obtain ⟨n,rfl⟩:∃ j,n=j+1:=⟨n - 1,by omega⟩
   have hi:i < xs.length:=by omega
   have hg:=List.getElem?_eq_getElem hi
   have:=ih (i+1) n (by omega) (by omega)
   rw [List.take_succ_eq_append_getElem hi] at this
   rw [F92.L3.succ,zo,ite'_t (lt_t hi),ite'_t (zn hi),zaT hg,ze,zaU hg,zh,c159 (k:=k+1) xs[i] (hx _ (List.getElem_mem hi))]
   show ite' (fits ((A1 (xs.take i)).length+[[D.int IntKind.i64 (xs[i]).1,D.list 1 (I1 (xs[i]).2)]].length)) (F92.L3 (k+2) (C (k+2)) n (IntKind.i64.wrap ((i:Int)+1)) a (A1 xs) [] [] a (A1 (xs.take i)++[[D.int IntKind.i64 (xs[i]).1,D.list 1 (I1 (xs[i]).2)]])) none=_
   rw [ite'_t (zS (by rw [zo,List.length_take];simp only [List.length_cons,List.length_nil];omega)),zy hi (m:=xs.length) (by omega),zif]
   exact this
 exact main xs.length 0 (k+2) (by omega) (by omega)
theorem zjP (x y:Atom):cmpF x y=cmpA x y:=by unfold cmpF cmpA;rw [zhs]
theorem ziH (x y:Atom):cmpF x y=0↔x=y:=by
 unfold cmpF
 constructor
 ·intro h
  by_cases h1:x.1 < y.1
  ·rw [if_pos h1] at h;omega
  ·rw [if_neg h1] at h
   by_cases h2:x.1 > y.1
   ·rw [if_pos h2] at h;omega
   ·rw [if_neg h2] at h
    exact Prod.ext (by omega) ((zbR _ _).1 h)
 ·rintro rfl
  rw [if_neg (by omega),if_neg (by omega)]
  exact (zbR _ _).2 rfl
theorem c158 {a:Ovi.Rows} (xs:List Atom) (f:Atom) (hx:∀ x∈xs,x.2.length≤1048576) (hl:xs.length≤1048576) (hk:2000000≤k):∃ n,C (k+4) 158 [.agg [.d (.list 3 a),.d (.list 2 (A1 xs))],.agg [.d (.int .i64 f.1),.d (.list 1 (I1 f.2))]]=io n∧(n ≥ 0↔f∈xs):=by
 have hmax:(1048576:Nat)≤maxLen:=by decide
 rw [F158.run]
 have:=zak (xs:=xs) (L:=fun n i=>F158.L2 (k+3) (C (k+3)) n i a (A1 xs) f.1 (I1 f.2)) (stop:=fun _ x=>decide (x=f)) (hit:=fun i=>io (i:Int)) (fin:=io (-1))
  (fun n i x hxi=>by
   have hi:=(List.getElem?_eq_some_iff.1 hxi).1
   have hxl:=hx x (List.mem_of_getElem? hxi)
   rw [F158.L2.succ,zo,ite'_t (lt_t hi),ite'_t (zn hi),zaT hxi,ze,zaU hxi,zh,c144 (k:=k+1) x f (by omega) (by omega),iB',zy hi (m:=xs.length) (by omega)]
   have:(cmpF x f==0)=decide (x=f):=by
    rw [Bool.eq_iff_iff,beq_iff_eq,decide_eq_true_eq]
    exact ziH x f
   rw [this];rfl)
  (fun n=>by rw [F158.L2.succ,zo,ite'_f (lt_f (by omega))];rfl) (k+3) (by omega)
 rcases this with ⟨i,x,hxi,hst,e⟩ | ⟨hst,e⟩
 ·refine ⟨(i:Int),e,?_⟩
  simp only [decide_eq_true_eq] at hst
  subst hst
  exact ⟨fun _=>List.mem_of_getElem? hxi,fun _=>by omega⟩
 ·refine ⟨-1,e,?_⟩
  constructor
  ·intro h;omega
  ·intro h
   obtain ⟨i,hi⟩:=List.mem_iff_getElem?.1 h
   have:=hst i f hi
   simp at this
theorem c91 {a:Ovi.Rows} (xs:List Atom) (f:Atom) (hS:SSA xs) (hx:∀ x∈xs,x.2.length≤1048576) (hf:f.2.length≤1048576) (hl:xs.length≤1000000) (hk:2000000≤k) :
  ∃ r ws,C (k+5) 91 [.agg [.d (.list 3 a),.d (.list 2 (A1 xs))],.agg [.d (.int .i64 f.1),.d (.list 1 (I1 f.2))]]=some r∧resL 3 1 true 2 r 0 0=some a∧resL 2 1 true 2 r 0 1=some (A1 ws)∧SSA ws∧(∀ z,z∈ws↔z∈xs∨z=f)∧ws.length≤xs.length+1:=by
 have hmax:(1048576:Nat)≤maxLen:=by decide
 obtain ⟨n,e77,hn⟩:=c158 (k:=k) (a:=a) xs f hx (by omega) hk
 rw [F91.run,e77,iB']
 by_cases h0:n ≥ 0
 ·rw [ite'_t (by simpa using h0)]
  have hm:=hn.1 h0
  refine ⟨_,xs,rfl,rfl,rfl,hS,fun z=>?_,by omega⟩
  constructor
  ·exact fun h=>.inl h
  ·rintro (h | rfl)
   ·exact h
   ·exact hm
 ·rw [ite'_f (by simpa using h0)]
  have hm:f ∉ xs:=fun h=>h0 (hn.2 h)
  have ins:∀ i:Nat,i≤xs.length→(∀ j y,j < i→xs[j]? = some y→ltA y f=true)→(∀ y,xs[i]? = some y→ltA y f=false) →
    ∃ r ws,(ite' (inS (i:Int) ((A1 xs).length:Int) (A1 xs).length) (ite' (fits ([[D.int IntKind.i64 f.1,D.list 1 (I1 f.2)]].length+(List.drop (i:Int).toNat (A1 xs)).length)) (ite' (inS (0:Int) (i:Int) (A1 xs).length) (ite' (fits (List.take (i:Int).toNat (A1 xs)).length) (ite' (fits ((List.take (i:Int).toNat (A1 xs)).length+List.length ([[D.int IntKind.i64 f.1,D.list 1 (I1 f.2)]]++List.drop (i:Int).toNat (A1 xs)))) (some ([(true,[RL.d (D.list 3 a),RL.row 118 2 (List.take (i:Int).toNat (A1 xs)++([[D.int IntKind.i64 f.1,D.list 1 (I1 f.2)]]++List.drop (i:Int).toNat (A1 xs)))])])) (none)) (none)) (none)) (none)) (none))=some r∧resL 3 1 true 2 r 0 0=some a∧resL 2 1 true 2 r 0 1=some (A1 ws)∧SSA ws∧(∀ z,z∈ws↔z∈xs∨z=f)∧ws.length≤xs.length+1:=by
   intro i hi hlt hge
   rw [Int.toNat_natCast,zo,znF,znE,ite'_t (by simp only [inS,decide_eq_true_eq];omega),ite'_t (zS (by rw [zo,List.length_drop];simp;omega)),ite'_t (by simp only [inS,decide_eq_true_eq];omega),ite'_t (zS (by rw [zo,List.length_take];omega)),ite'_t (zS (by rw [zo,List.length_take,List.length_append,zo,List.length_drop];simp;omega))]
   have e:A1 (xs.take i)++([[D.int IntKind.i64 f.1,D.list 1 (I1 f.2)]]++A1 (xs.drop i))=A1 (xs.take i++f::xs.drop i):=by simp [A1]
   rw [e]
   refine ⟨_,xs.take i++f::xs.drop i,rfl,rfl,rfl,zos hS hm hlt hge,fun z=>zoj i,?_⟩
   simp only [List.length_append,List.length_cons,List.length_take,List.length_drop];omega
  have main:∀ (m i n:Nat),i+m=xs.length→m < n→(∀ j y,j < i→xs[j]? = some y→ltA y f=true)→∃ r ws,F91.L4 (k+4) (C (k+4)) n (i:Int) a (A1 xs) f.1 (I1 f.2) [] []=some r∧resL 3 1 true 2 r 0 0=some a∧resL 2 1 true 2 r 0 1=some (A1 ws)∧SSA ws∧(∀ z,z∈ws↔z∈xs∨z=f)∧ws.length≤xs.length+1:=by
   intro m
   induction m with
   | zero =>
    intro i n hm' hn' hlt
    obtain ⟨n,rfl⟩:∃ j,n=j+1:=⟨n - 1,by omega⟩
    obtain rfl:i=xs.length:=by omega
    have h0:decide (((xs.length:Nat):Int) < ((A1 xs).length:Int))=false:=by rw [zo];exact lt_f (by omega)
    rw [F91.L4.succ,h0,ite'_f rfl,c159 (k:=k+3) f hf]
    exact ins xs.length (Nat.le_refl _) hlt (fun y hy=>by rw [List.getElem?_eq_none (Nat.le_refl _)] at hy;cases hy)
   | succ m ih =>
    intro i n hm' hn' hlt
    obtain ⟨n,rfl⟩:∃ j,n=j+1:=⟨n - 1,by omega⟩
    have hi:i < xs.length:=by omega
    have hg:=List.getElem?_eq_getElem hi
    have hxl:=hx _ (List.getElem_mem hi)
    have h0:decide ((i:Int) < ((A1 xs).length:Int))=true:=by rw [zo];exact lt_t hi
    have h1:inR (i:Int) (A1 xs).length=true:=by rw [zo];exact zn hi
    rw [F91.L4.succ,h0,ite'_t rfl,h1,ite'_t rfl,zaT hg,ze,zaU hg,zh,c144 (k:=k+2) xs[i] f (by omega) (by omega),iB']
    by_cases hc:cmpF xs[i] f < 0
    ·rw [ite'_t (by simpa using hc),zy hi (m:=xs.length) (by omega)]
     refine ih (i+1) n (by omega) (by omega) fun j y hj hy=>?_
     by_cases hji:j=i
     ·subst hji
      rw [hg] at hy;cases hy
      unfold ltA
      rw [← zjP,decide_eq_true_eq];exact hc
     ·exact hlt j y (by omega) hy
    ·rw [ite'_f (by simpa using hc),c159 (k:=k+3) f hf]
     refine ins i (by omega) hlt fun y hy=>?_
     rw [hg] at hy;cases hy
     unfold ltA
     rw [← zjP,decide_eq_false_iff_not];exact hc
  exact main xs.length 0 (k+4) (by omega) (by omega) (fun j y hj=>by omega)
end Go.Proofs.YthicohakeljdcaaGreat.Q
namespace Go.Proofs.YthicohakeljdcaaGreat.Q
open Go Ovi
variable {k:Nat}
variable {a:Ovi.Rows} {xs:List Atom} {ib:Bool}
end Go.Proofs.YthicohakeljdcaaGreat.Q
namespace Go.Proofs.YthicohakeljdcaaGreat.Q
open Go Ovi
variable {k:Nat}
theorem zno {a:Ovi.Rows} {xs:List Atom} {valid:Atom→Bool} (n:Int) (hv:zco a xs valid) (hk:2000000≤k) (ha:a.length≤1048576) (hs:zF xs+xs.length≤1048576) :
  C (k+9) 162 [.d (.list 3 a),.d (.list 2 (A1 xs)),.d (.int .i64 n)]=bo (decide ((1:Int)≤(xs.length:Int)∧(xs.length:Int)≤n)&&xs.all valid):=by
 have hmax:(1048576:Nat)≤maxLen:=by decide
 rw [F162.run,c73,bB,zo]
 cases decide ((1:Int)≤(xs.length:Int)∧(xs.length:Int)≤n) with
 | false=>rfl
 | true =>
  rw [ite'_t rfl,c217 (k:=k+6) xs 218 [[.list 3 a]] (fun x=>!valid x) (by omega) (by omega) (fun x hx=>by
   have:=zaa hx
   rw [List.map_cons,List.map_nil,F218.run,(hv x hx k (by omega) (by omega)).1,bB];rfl),bB]
  exact zar (zbu xs valid)
structure DepOk (a:Ovi.Rows) (body head:List Atom) (egd:Bool) (l r:Int):Prop where
 b1:1≤body.length
 b2:body.length≤2
 bv:∀ x∈body,(0≤x.1∧x.1 < (a.length:Int))∧(x.2.length:Int)=ar a x.1∧okT x.2
 e:egd=true→head=[]∧zY body l∧zY body r
 bV:zco a body (fun _=>true)
 tV:egd=false→1≤head.length∧zco a head (fun _=>true)
 t:egd=false→head.length≤2∧∀ x∈head,(0≤x.1∧x.1 < (a.length:Int))∧(x.2.length:Int)=ar a x.1∧okT x.2
theorem zis {a:Ovi.Rows} {body:List Atom} {z:Int} (hb:∀ x∈body,(0≤x.1∧x.1 < (a.length:Int))∧(x.2.length:Int)=ar a x.1∧okT x.2) (h:zY body z):0≤z∧z≤4:=by
 obtain ⟨h0,x,hx,hz⟩:=h
 exact ⟨h0,((hb x hx).2.2 z hz).2⟩
theorem dep {a:Ovi.Rows} (ha:Fit Rl (.list 3 a)) (hal:a.length≤1048576) (body head:List Atom) (egd:Bool) (l r:Int) (hsb:zF body+body.length≤1048576) (hsh:zF head+head.length≤1048576) :
  ∃ b,(b=true→DepOk a body head egd l r)∧∀ k,2000000≤k→C (k+12) 189 [.d (.list 3 a),.agg [.d (.list 2 (A1 body)),.d (.list 2 (A1 head)),.d (.bool egd),.d (.int .i64 l),.d (.int .i64 r)]]=bo b∧C (k+12) 183 [.d (.list 3 a),.agg [.d (.list 2 (A1 body)),.d (.list 2 (A1 head)),.d (.bool egd),.d (.int .i64 l),.d (.int .i64 r)]]=bo b:=by
 have hmax:(1048576:Nat)≤maxLen:=by decide
 obtain ⟨vb,hvb,hVb⟩:=zfd ha body (fun x hx=>by have:=zaa hx;omega)
 obtain ⟨vh,hvh,hVh⟩:=zfd ha head (fun x hx=>by have:=zaa hx;omega)
 have e89:∀ k,2000000≤k→C (k+11) 162 [.d (.list 3 a),.d (.list 2 (A1 body)),.d (.int .i64 2)]=bo (decide ((1:Int)≤(body.length:Int)∧(body.length:Int)≤2)&&body.all vb):=fun k hk=>zno (k:=k+2) 2 hVb (by omega) hal hsb
 have e89h:∀ k,2000000≤k→C (k+11) 162 [.d (.list 3 a),.d (.list 2 (A1 head)),.d (.int .i64 2)]=bo (decide ((1:Int)≤(head.length:Int)∧(head.length:Int)≤2)&&head.all vh):=fun k hk=>zno (k:=k+2) 2 hVh (by omega) hal hsh
 have L4:∀ k,2000000≤k→∀ fin,(∀ n,F183.L4 (k+11) (C (k+11)) (n+1) a (body.length:Int) (A1 body) (A1 head) egd l r=fin)→F183.L4 (k+11) (C (k+11)) (k+11) a 0 (A1 body) (A1 head) egd l r=cond (body.any fun x=>!vb x) (bo false) fin:=fun k hk fin hfin =>
  zbc (xs:=body) (L:=fun n i=>F183.L4 (k+11) (C (k+11)) n a i (A1 body) (A1 head) egd l r) (stop:=fun x=>!vb x) (hit:=bo false) (fin:=fin)
   (fun n i x hx=>by
    have hi:=(List.getElem?_eq_some_iff.1 hx).1
    have:=zaa (List.mem_of_getElem? hx)
    rw [F183.L4.succ,zo,ite'_t (lt_t hi),ite'_t (zn hi),zaT hx,ze,zaU hx,zh,(hVb x (List.mem_of_getElem? hx) (k+6) (by omega) (by omega)).2,bB,zy hi (m:=body.length) (by omega)];rfl)
   hfin (k+11) (by omega)
 have hbv:body.all vb=true→∀ x∈body,(0≤x.1∧x.1 < (a.length:Int))∧(x.2.length:Int)=ar a x.1∧okT x.2:=fun h x hx=>hvb x hx (List.all_eq_true.1 h x hx)
 have hhv:head.all vh=true→∀ x∈head,(0≤x.1∧x.1 < (a.length:Int))∧(x.2.length:Int)=ar a x.1∧okT x.2:=fun h x hx=>hvh x hx (List.all_eq_true.1 h x hx)
 cases hb12:decide ((1:Int)≤(body.length:Int)∧(body.length:Int)≤2) with
 | false =>
  refine ⟨false,fun h=>(by cases h),fun k hk=>?_⟩
  rw [F189.run,F183.run,e89 k hk,bB,c68,bB]
  simp only [zo,hb12,Bool.false_and,Bool.not_false]
  exact ⟨rfl,rfl⟩
 | true =>
  have h12:=of_decide_eq_true hb12
  cases hall:body.all vb with
  | false =>
   refine ⟨false,fun h=>(by cases h),fun k hk=>?_⟩
   have hany:(body.any fun x=>!vb x)=true:=by rw [← zbu] at hall;simpa using hall
   rw [F189.run,F183.run,e89 k hk,bB,c68,bB]
   simp only [zo,hb12,hall,Bool.and_true,Bool.and_false,Bool.true_and,Bool.false_and,Bool.not_true,Bool.not_false]
   refine ⟨rfl,?_⟩
   rw [ite'_f rfl]
   rw [L4 k hk _ (fun n=>by rw [F183.L4.succ,zo,ite'_f (lt_f (by omega))]),hany];rfl
  | true =>
   have hany:(body.any fun x=>!vb x)=false:=by rw [← zbu] at hall;simpa using hall
   have hB:=hbv hall
   have hBV:zco a body (fun _=>true):=fun x hx k h1 h2=>by have:=hVb x hx k h1 h2;rw [List.all_eq_true.1 hall x hx] at this;exact this
   cases egd with
   | true =>
    refine ⟨decide (head=[])&&(decide (l < r)&&(@decide (zY body l) (Classical.propDecidable _)&&@decide (zY body r) (Classical.propDecidable _))),fun h=>?_,fun k hk=>?_⟩
    ·simp only [Bool.and_eq_true] at h
     obtain ⟨h1,h2,h3,h4⟩:=h
     have h3:=@of_decide_eq_true _ (Classical.propDecidable _) h3
     have h4:=@of_decide_eq_true _ (Classical.propDecidable _) h4
     exact ⟨by omega,by omega,hB,fun _=>⟨of_decide_eq_true h1,h3,h4⟩,hBV,(fun h=>by cases h),fun h=>by cases h⟩
    ·obtain ⟨v1,w1,w2,w3⟩:=c161 (k:=k+10) body (by omega) hsb
     obtain ⟨v2,u1,u2,u3⟩:=c155 (k:=k+9) body (by omega) hsb
     have d1:∀ z,decide (z∈v1)=@decide (zY body z) (Classical.propDecidable _):=fun z=>zcB w2 z
     have d2:∀ z,decide (z∈v2)=@decide (zY body z) (Classical.propDecidable _):=fun z=>zcB u2 z
     have hh:decide ((head.length:Int)=0)=decide (head=[]):=by
      rw [Bool.eq_iff_iff,decide_eq_true_eq,decide_eq_true_eq]
      constructor
      ·intro h;exact List.eq_nil_of_length_eq_zero (by omega)
      ·rintro rfl;rfl
     rw [F189.run,F183.run,e89 k hk,bB,c68,bB]
     simp only [zo,hb12,hall,Bool.and_true,Bool.and_false,Bool.true_and,Bool.false_and,Bool.not_true,Bool.not_false]
     constructor
     ·rw [ite'_f rfl,ite'_t rfl,w1]
      simp only [zj,zt,zh]
      rw [show ((head.length:Int)==0)=decide (head=[]) from hh,c83 (k:=k+9) v1 l (by omega) (by omega),c83 (k:=k+9) v1 r (by omega) (by omega),bB,bB,d1,d1]
      cases decide (head=[])<;>cases decide (l < r)<;>cases @decide (zY body l) (Classical.propDecidable _)<;>cases @decide (zY body r) (Classical.propDecidable _)<;>rfl
     ·rw [ite'_f rfl,L4 k hk _ (fun n=>by rw [F183.L4.succ,zo,ite'_f (lt_f (by omega)),ite'_t rfl,u1,zo]),hany]
      simp only [zj,zbI,zh,cond_false]
      rw [show ((head.length:Int)==0)=decide (head=[]) from hh,c81 (k:=k+10) v2 l (by omega) (by omega),c81 (k:=k+10) v2 r (by omega) (by omega),bB,bB,d2,d2]
      cases decide (head=[])<;>cases decide (l < r)<;>cases @decide (zY body l) (Classical.propDecidable _)<;>cases @decide (zY body r) (Classical.propDecidable _)<;>rfl
   | false =>
    have L12:∀ k,2000000≤k→F183.L12 (k+11) (C (k+11)) (k+11) a 0 (A1 body) (A1 head) false l r=cond (head.any fun x=>!vh x||src a x) (bo false) (bo (decide ((1:Int)≤(head.length:Int)∧(head.length:Int)≤2)&&(decide (l=0)&&decide (r=0)))):=fun k hk =>
     zbc (xs:=head) (L:=fun n i=>F183.L12 (k+11) (C (k+11)) n a i (A1 body) (A1 head) false l r) (stop:=fun x=>!vh x||src a x) (hit:=bo false)
      (fun n i x hx=>by
       have hi:=(List.getElem?_eq_some_iff.1 hx).1
       have hm:=List.mem_of_getElem? hx
       have:=zaa hm
       rw [F183.L12.succ,zo,ite'_t (lt_t hi),ite'_t (zn hi),zaT hx,ze,zaU hx,zh,(hVh x hm (k+6) (by omega) (by omega)).2,bB,zy hi (m:=head.length) (by omega)]
       cases hvx:vh x with
       | false=>rfl
       | true =>
        obtain ⟨g1,g2⟩:=zhg ha (hvh x hm hvx).1
        rw [ite'_nt,ite'_t (zn hi),ze,g1,ite'_t rfl,g2,zu]
        cases src a x<;>rfl)
      (fun n=>by
       rw [F183.L12.succ,zo,ite'_f (lt_f (by omega)),c68,bB]
       have e1:(l==0)=decide (l=0):=rfl
       have e2:(r==0)=decide (r=0):=rfl
       rw [e1,e2]
       cases decide ((1:Int)≤(head.length:Int)∧(head.length:Int)≤2)<;>cases decide (l=0)<;>rfl) (k+11) (by omega)
    refine ⟨cond (head.any fun x=>!vh x||src a x) false (decide ((1:Int)≤(head.length:Int)∧(head.length:Int)≤2)&&(decide (l=0)&&decide (r=0))),fun h=>?_,fun k hk=>?_⟩
    ·cases hh:(head.any fun x=>!vh x||src a x) with
     | true=>rw [hh] at h;cases h
     | false =>
      rw [hh,cond_false] at h
      simp only [Bool.and_eq_true,decide_eq_true_eq] at h
      rw [List.any_eq_false] at hh
      have hvt:∀ x∈head,vh x=true:=fun x hx=>by
       have:=hh x hx
       cases hv:vh x with
       | true=>rfl
       | false=>rw [hv] at this;simp at this
      exact ⟨by omega,by omega,hB,(fun h=>by cases h),hBV,fun _=>⟨by omega,fun x hx k h1 h2=>by have:=hVh x hx k h1 h2;rw [hvt x hx] at this;exact this⟩,fun _=>⟨by omega,fun x hx=>hvh x hx (hvt x hx)⟩⟩
    ·rw [F189.run,F183.run,e89 k hk,bB,c68,bB]
     simp only [zo,hb12,hall,Bool.and_true,Bool.and_false,Bool.true_and,Bool.false_and,Bool.not_true,Bool.not_false]
     constructor
     ·rw [ite'_f rfl,ite'_f rfl,e89h k hk,bB]
      cases hha:head.all vh with
      | false =>
       have hany2:(head.any fun x=>!vh x||src a x)=true:=by
        rw [← zbu] at hha
        have h1:(head.any fun x=>!vh x)=true:=by simpa using hha
        obtain ⟨x,hx,hx2⟩:=List.any_eq_true.1 h1
        exact List.any_eq_true.2 ⟨x,hx,by rw [hx2];rfl⟩
       rw [hany2,Bool.and_false];rfl
      | true =>
       have hh2:=List.all_eq_true.1 hha
       have hany2:(head.any fun x=>!vh x||src a x)=head.any (src a):=by
        rw [Bool.eq_iff_iff,List.any_eq_true,List.any_eq_true]
        constructor
        ·rintro ⟨x,hx,h⟩
         rw [hh2 x hx] at h
         exact ⟨x,hx,by simpa using h⟩
        ·rintro ⟨x,hx,h⟩
         exact ⟨x,hx,by rw [h];simp⟩
       have e129:C (k+11) 217 [.d (.list 2 (A1 head)),.d (.fn 238 [[.list 3 a]])]=bo (head.any (src a)):=c217 (k:=k+9) head 238 [[.list 3 a]] (src a) (by omega) (by omega) (fun x hx=>by
        obtain ⟨g1,g2⟩:=zhg ha (hvh x hx (hh2 x hx)).1
        rw [List.map_cons,List.map_nil,F238.run,g1,ite'_t rfl,g2,zu];rfl)
       rw [hany2,Bool.and_true,e129,bB]
       have e1:(l==0)=decide (l=0):=rfl
       have e2:(r==0)=decide (r=0):=rfl
       rw [e1,e2]
       cases decide ((1:Int)≤(head.length:Int)∧(head.length:Int)≤2)<;>cases decide (l=0)<;>cases decide (r=0)<;>cases head.any (src a)<;>rfl
     ·rw [ite'_f rfl,L4 k hk _ (fun n=>by rw [F183.L4.succ,zo,ite'_f (lt_f (by omega)),ite'_f rfl,L12 k hk]),hany,cond_false]
      cases (head.any fun x=>!vh x||src a x)<;>rfl
end Go.Proofs.YthicohakeljdcaaGreat.Q
namespace Go.Proofs.YthicohakeljdcaaGreat.Q
open Go Ovi
variable {k:Nat}
structure Dep where
 body:List Atom
 head:List Atom
 egd:Bool
 l:Int
 r:Int
def DD (ds:List Dep):Ovi.Rows:=ds.map fun d=>[.list 2 (A1 d.body),.list 2 (A1 d.head),.bool d.egd,.int .i64 d.l,.int .i64 d.r]
theorem zbs (ds:List Dep):(DD ds).length=ds.length:=by simp [DD]
theorem zd5 {ds:List Dep} {i:Nat} {d:Dep} (h:ds[i]? = some d):(DD ds)[i]? = some [.list 2 (A1 d.body),.list 2 (A1 d.head),.bool d.egd,.int .i64 d.l,.int .i64 d.r]:=by simp [DD,h]
section
variable {ds:List Dep} {i:Nat} {d:Dep}
theorem DD_0 (h:ds[i]? = some d):zr 2 (DD ds) (i:Int).toNat 0=some (A1 d.body):=by rw [Int.toNat_natCast,zZ (zd5 h)];simp [zL]
theorem DD_1 (h:ds[i]? = some d):zr 2 (DD ds) (i:Int).toNat 1=some (A1 d.head):=by rw [Int.toNat_natCast,zZ (zd5 h)];simp [zL]
theorem DD_2 (h:ds[i]? = some d):zam (DD ds) (i:Int).toNat 2=some d.egd:=by rw [Int.toNat_natCast,zaq (zd5 h)];simp [zQ]
theorem DD_3 (h:ds[i]? = some d):zm .i64 (DD ds) (i:Int).toNat 3=some d.l:=by rw [Int.toNat_natCast,zG (zd5 h)];simp [zx]
theorem DD_4 (h:ds[i]? = some d):zm .i64 (DD ds) (i:Int).toNat 4=some d.r:=by rw [Int.toNat_natCast,zG (zd5 h)];simp [zx]
end
def da (d:Dep):AV:=.agg [.d (.list 2 (A1 d.body)),.d (.list 2 (A1 d.head)),.d (.bool d.egd),.d (.int .i64 d.l),.d (.int .i64 d.r)]
def Dsz (d:Dep):Prop:=zF d.body+d.body.length≤1048576∧zF d.head+d.head.length≤1048576
theorem deps {a:Ovi.Rows} (ha:Fit Rl (.list 3 a)) (hal:a.length≤1048576) (ds:List Dep) (hz:∀ d∈ds,Dsz d) (hl:ds.length≤1048576) :
  ∃ b,(b=true→ds.length≤5∧∀ d∈ds,DepOk a d.body d.head d.egd d.l d.r∧∀ k,2000000≤k→C (k+12) 189 [.d (.list 3 a),da d]=bo true∧C (k+12) 183 [.d (.list 3 a),da d]=bo true) ∧
   ∀ k,2000000≤k→C (k+16) 121 [.d (.list 3 a),.d (.list 5 (DD ds))]=bo b∧C (k+16) 116 [.d (.list 3 a),.d (.list 5 (DD ds))]=bo b:=by
 have hmax:(1048576:Nat)≤maxLen:=by decide
 obtain ⟨rb,hrb⟩:=rels ha
 have:∀ d:Dep,∃ b,d∈ds→(b=true→DepOk a d.body d.head d.egd d.l d.r)∧∀ k,2000000≤k→C (k+12) 189 [.d (.list 3 a),da d]=bo b∧C (k+12) 183 [.d (.list 3 a),da d]=bo b:=by
  intro d
  by_cases h:d∈ds
  ·obtain ⟨b,hb⟩:=dep ha hal d.body d.head d.egd d.l d.r (hz d h).1 (hz d h).2
   exact ⟨b,fun _=>hb⟩
  ·exact ⟨false,fun h'=>absurd h' h⟩
 obtain ⟨vd,hvd⟩:=Classical.axiomOfChoice this
 refine ⟨rb&&(decide ((ds.length:Int)≤5)&&ds.all vd),fun h=>?_,fun k hk=>?_⟩
 ·simp only [Bool.and_eq_true,decide_eq_true_eq,List.all_eq_true] at h
  refine ⟨by omega,fun d hd=>?_⟩
  obtain ⟨h1,h2⟩:=hvd d hd
  have e:=h.2.2 d hd
  refine ⟨h1 e,fun k hk=>?_⟩
  have:=h2 k hk
  rw [e] at this
  exact this
 ·have e87:C (k+15) 187 [.d (.list 5 (DD ds)),.d (.fn 188 [[.list 3 a]])]=bo (ds.any fun d=>!vd d):=by
   rw [F187.run,F237.run,zbs]
   have:=zak (xs:=ds) (L:=fun n i=>F237.L2 (k+13) (C (k+13)) n (DD ds) 188 [[.list 3 a]] (ds.length:Int) i) (stop:=fun _ d=>!vd d) (hit:=fun i=>some [(false,[.d (.int .i64 (i:Int))])]) (fin:=some [(false,[.d (.int .i64 (-1))])])
    (fun n i d hx=>by
     have hi:=(List.getElem?_eq_some_iff.1 hx).1
     have hm:=List.mem_of_getElem? hx
     have e88:C (k+13) 188 [da d,.cap [.list 3 a] 0]=bo (!vd d):=by
      show C (k+12+1) 188 [.agg [.d (.list 2 (A1 d.body)),.d (.list 2 (A1 d.head)),.d (.bool d.egd),.d (.int .i64 d.l),.d (.int .i64 d.r)],.cap [.list 3 a] 0]=_
      rw [F188.run]
      have:=((hvd d hm).2 k hk).1
      unfold da at this
      rw [this,bB];rfl
     rw [F237.L2.succ,zbs,ite'_t (lt_t hi),ite'_t (zn hi),DD_0 hx,zh,DD_1 hx,zh,DD_2 hx,zu,DD_3 hx,ze,DD_4 hx,ze,zy hi (m:=ds.length) (by omega)]
     unfold da at e88
     simp only [List.map_cons,List.map_nil,List.append_eq,List.nil_append] at e88 ⊢
     rw [e88,bB];rfl)
    (fun n=>by rw [F237.L2.succ,ite'_f (lt_f (by omega))]) (k+13) (by omega)
   rcases this with ⟨i,x,hx,hst,e⟩ | ⟨hst,e⟩
   ·rw [show F237.L2 (k+13) (C (k+13)) (k+13) (DD ds) 188 [[.list 3 a]] (ds.length:Int) 0=_ from e]
    simp only [zj,zw,ze]
    exact zar (by rw [List.any_eq_true.2 ⟨x,List.mem_of_getElem? hx,hst⟩];simp)
   ·rw [show F237.L2 (k+13) (C (k+13)) (k+13) (DD ds) 188 [[.list 3 a]] (ds.length:Int) 0=_ from e]
    simp only [zj,zw,ze]
    refine zar ?_
    rw [List.any_eq_false.2 (fun x hx=>?_)]
    ·rfl
    ·obtain ⟨i,hi⟩:=List.mem_iff_getElem?.1 hx
     simpa using hst i x hi
  constructor
  ·rw [F121.run,(hrb (k+12) (by omega)).1,bB,zbs,e87,bB]
   cases rb with
   | false=>rfl
   | true =>
    rw [ite'_t rfl]
    cases decide ((ds.length:Int)≤5) with
    | false=>rfl
    | true =>
     rw [ite'_t rfl]
     exact zar (zbu ds vd)
  ·rw [F116.run]
   have:=zbc (xs:=ds) (L:=fun n i=>F116.L2 (k+15) (C (k+15)) n a (DD ds) i) (stop:=fun d=>!vd d) (hit:=bo false) (fin:=bo (rb&&decide ((ds.length:Int)≤5)))
    (fun n i d hx=>by
     have hi:=(List.getElem?_eq_some_iff.1 hx).1
     have hm:=List.mem_of_getElem? hx
     have e68:=((hvd d hm).2 (k+3) (by omega)).2
     unfold da at e68
     rw [F116.L2.succ,zbs,ite'_t (lt_t hi),ite'_t (zn hi),DD_0 hx,zh,DD_1 hx,zh,DD_2 hx,zu,DD_3 hx,ze,DD_4 hx,ze,zy hi (m:=ds.length) (by omega)]
     rw [show (C (k+15) 183 [.d (.list 3 a),.agg [.d (.list 2 (A1 d.body)),.d (.list 2 (A1 d.head)),.d (.bool d.egd),.d (.int .i64 d.l),.d (.int .i64 d.r)]])=bo (vd d) from e68,bB];rfl)
    (fun n=>by
     rw [F116.L2.succ,zbs,ite'_f (lt_f (by omega)),(hrb (k+12) (by omega)).2,bB]
     cases rb<;>rfl) (k+15) (by omega)
   rw [show F116.L2 (k+15) (C (k+15)) (k+15) a (DD ds) 0=_ from this,← zbu ds vd]
   cases (ds.any fun d=>!vd d)<;>cases rb<;>cases decide ((ds.length:Int)≤5)<;>rfl
end Go.Proofs.YthicohakeljdcaaGreat.Q
namespace Go.Proofs.YthicohakeljdcaaGreat.Q
open Go Ovi
variable {k:Nat}
theorem zjM (n:Int):(n != n)=false:=by simp
theorem c109 {xs ys:Ovi.Rows} {m m':Int} (h:zP zaP xs m=some (ys,m')) (h0:0≤m) (h1:m'≤4611686018427387904) (hl:ys.length≤1048576) (hk:2000000≤k):C (k+1) 109 [.d (.list 1 ys),.d (.int .i64 m)]=some [(false,[.d (.int .i64 m')])]:=by
 have hmax:(1048576:Nat)≤maxLen:=by decide
 obtain ⟨κ,q0,q1,q2,q3⟩:=zdA h
 rw [F109.run]
 have key:∀ (a i n:Nat),i+a=ys.length→a < n→F109.L2 k (C k) n ys (κ i) (i:Int)=some [(false,[.d (.int .i64 m')])]:=by
  intro a
  induction a with
  | zero =>
   intro i n hm hn
   obtain ⟨n,rfl⟩:∃ j,n=j+1:=⟨n - 1,by omega⟩
   obtain rfl:i=ys.length:=by omega
   rw [F109.L2.succ,ite'_f (lt_f (by omega)),q1]
  | succ a ih =>
   intro i n hm hn
   obtain ⟨n,rfl⟩:∃ j,n=j+1:=⟨n - 1,by omega⟩
   have hi:i < ys.length:=by omega
   obtain ⟨r,r',p1,p2,p3⟩:=q3 i hi
   obtain ⟨z,_,rfl,e⟩:=zdF p3
   have b1:=zeB zaD q3 (Nat.zero_le i) (by omega)
   have b2:=zeB zaD q3 (show i+1≤ys.length by omega) (Nat.le_refl _)
   rw [F109.L2.succ,ite'_t (lt_t hi),ite'_t (zn hi)]
   simp only [Int.toNat_natCast,zG p2,List.getElem?_cons_zero,Option.bind_some,zx,ze]
   rw [ite'_f (zjM _),zad (by omega) (by omega),zai (m:=ys.length) (by omega) (by omega) (by omega),show ((i:Int)+1)=((i+1:Nat):Int) by omega,← e]
   exact ih (i+1) n (by omega) (by omega)
 have:=key ys.length 0 k (by omega) (by omega)
 rwa [q0] at this
theorem zpK (n:Nat):zd7 [[D.int .u8 (IntKind.u8.wrap (IntKind.i64.wrap ((48:Int)+((n:Int)).tmod 10)))]]=some [UInt8.ofNat (48+n % 10)]:=by
 have h1:((n:Int)).tmod 10=((n % 10:Nat):Int):=by
  rw [Int.tmod_eq_emod_of_nonneg (by omega)];omega
 have h2:n % 10 < 10:=Nat.mod_lt _ (by decide)
 rw [h1]
 generalize n % 10=d at h2
 match d,h2 with
 | 0,_=>rfl
 | 1,_=>rfl
 | 2,_=>rfl
 | 3,_=>rfl
 | 4,_=>rfl
 | 5,_=>rfl
 | 6,_=>rfl
 | 7,_=>rfl
 | 8,_=>rfl
 | 9,_=>rfl
theorem l79 (k:Nat) (call:zg):∀ (f n K:Nat) (acc:List UInt8),f < K→n < 10 ^ f→n≤4611686018427387904→acc.length+f≤1000→F103.L4 k call K (n:Int) acc=some [(false,[.d (.str (109::digs f n acc))])]:=by
 intro f
 induction f with
 | zero =>
  intro n K acc hK hn _ hl
  obtain ⟨K,rfl⟩:∃ j,K=j+1:=⟨K - 1,by omega⟩
  obtain rfl:n=0:=by simpa using hn
  rw [F103.L4.succ,ite'_f (by decide),ite'_t (zS (by omega))]
  rfl
 | succ f ih =>
  intro n K acc hK hn hn2 hl
  obtain ⟨K,rfl⟩:∃ j,K=j+1:=⟨K - 1,by omega⟩
  by_cases h0:n=0
  ·subst h0
   rw [F103.L4.succ,ite'_f (by decide),ite'_t (zS (by omega))]
   rfl
  ·have hd:IntKind.i64.wrap (((n:Int)).tdiv 10)=((n / 10:Nat):Int):=by
    rw [Int.tdiv_eq_ediv_of_nonneg (by omega),zad (by omega) (by omega)];omega
   rw [F103.L4.succ,ite'_t (by simp only [decide_eq_true_eq];omega),zpK,zE,hd]
   rw [ite'_t (zS (by simp only [List.length_cons,List.length_nil];omega))]
   have h10:n / 10 < 10 ^ f:=by
    rw [Nat.pow_succ] at hn
    exact Nat.div_lt_of_lt_mul (by omega)
   rw [ih (n / 10) K ([UInt8.ofNat (48+n % 10)]++acc) (by omega) h10 (by omega) (by simp only [List.length_append,List.length_cons,List.length_nil];omega)]
   simp only [digs,if_neg h0,List.singleton_append]
theorem e103 (k:Nat) (call:zg) (m:Int) (h0:0≤m) (h1:m≤4611686018427387904) (hk:2000≤k):zc3 P hs call 103 k Tryz.f103 [.d (.int .i64 m)]=some [(false,[.d (.str (mt m))])]:=by
 rw [F103.eq]
 by_cases hm:m≤0
 ·rw [ite'_t (by simpa using hm)]
  simp only [mt,if_pos hm]
 ·rw [ite'_f (by simpa using hm)]
  obtain ⟨n,rfl⟩:∃ n:Nat,m=n:=⟨m.toNat,by omega⟩
  rw [l79 k call 64 n k [] (by omega) (Nat.lt_of_le_of_lt (show n≤4611686018427387904 by omega) (by decide)) (by omega) (by simp)]
  simp only [mt,if_neg hm,Int.toNat_natCast]
variable {k:Nat}
variable {k:Nat}
theorem zf2 {α:Type} (c:Nat):∀ l:List α,(l.map fun _=>c).sum=c * l.length
 | []=>rfl
 | x::r=>by simp only [List.map_cons,List.sum_cons,List.length_cons,zf2 c r,Nat.mul_add];omega
theorem zir (zs:List Int) (m:Int):∃ ys,zP zaP (I1 zs) m=some (ys,m+zs.length):=by
 obtain ⟨ys,h⟩:=zbV (step:=zaP) (c:=fun _=>1) (xs:=I1 zs) (fun r hr k=>by
  obtain ⟨z,_,rfl⟩:=List.mem_map.1 hr
  exact ⟨_,rfl⟩) m
 refine ⟨ys,?_⟩
 rw [h,zf2,zl,Nat.one_mul]
theorem zoo {a:Ovi.Rows} (ha:Fit Rl (.list 3 a)) (m:Int):∃ ys,zP (zbx mt) a m=some (ys,m+3 * a.length):=by
 obtain ⟨ys,h⟩:=zbV (step:=zbx mt) (c:=fun _=>3) (xs:=a) (fun r hr k=>by
  unfold Rl at ha
  simp only [Fit] at ha
  obtain ⟨x0,r0,rfl,h0,hf0⟩:=Fits.cons (ha.2.2 r hr)
  obtain ⟨x1,r1,rfl,h1,hf1⟩:=Fits.cons hf0
  obtain ⟨x2,r2,rfl,h2,hf2⟩:=Fits.cons hf1
  obtain rfl:=Fits.nil hf2
  obtain ⟨s,rfl,_⟩:=h0.str
  obtain ⟨z,rfl,_⟩:=h1.int
  obtain ⟨t,rfl⟩:=h2.bool
  exact ⟨[.str (mt k),.int .i64 (k+1),.bool ((k+1+1) % 3==0)],by simp only [zbx,Option.some.injEq,Prod.mk.injEq,true_and];omega⟩) m
 refine ⟨ys,?_⟩
 rw [h,zf2]
 simp only [Option.some.injEq,Prod.mk.injEq,true_and]
 omega
theorem zeJ (xs:List Atom) (m:Int):∃ ys,zP zae (A1 xs) m=some (ys,m+(xs.length+zF xs:Nat)):=by
 obtain ⟨ys,h⟩:=zbV (step:=zae) (c:=fun r=>match r with | [_,.list _ l]=>1+l.length | _=>0) (xs:=A1 xs) (fun r hr k=>by
  obtain ⟨x,_,rfl⟩:=List.mem_map.1 hr
  obtain ⟨ys,h⟩:=zir x.2 (k+1)
  refine ⟨[.int .i64 k,.list 1 ys],?_⟩
  simp only [zae,h,Option.map_some,zl,Option.some.injEq,Prod.mk.injEq,true_and]
  omega) m
 refine ⟨ys,?_⟩
 rw [h]
 congr 2
 have:((A1 xs).map fun r=>match r with | [_,.list _ l]=>1+l.length | _=>0).sum=xs.length+zF xs:=by
  clear h
  induction xs with
  | nil=>rfl
  | cons x r ih =>
   simp only [A1,List.map_cons,List.sum_cons,List.length_cons,zF,zl] at ih ⊢
   omega
 rw [this]
theorem e17 {a f a' f':Ovi.Rows} {m1 m2:Int} (h1:zP (zbx mt) a 1=some (a',m1)) (h2:zP zae f m1=some (f',m2)) (hb:m2≤4611686018427387904):C (k+1) 17 [.var 0 0,.d (.bool true),.d (.int .i64 1),.d (.int .i64 ((133:Nat):Int)),.d (.list 3 a),.d (.int .i64 ((118:Nat):Int)),.d (.list 2 f)]=some [(false,[.row 133 3 a']),(false,[.row 118 2 f']),(false,[.d (.int .i64 m2)])]:=by
 rw [zd4 (p:=zaQ true (mkAg (zbo mt))) rfl]
 have hs:zbo mt [.list 3 a,.list 2 f] 1=some ([.list 3 a',.list 2 f'],m2):=by
  simp only [zbo,h1,Option.bind_some,h2,Option.map_some]
 have hp:zaS [.d (.int .i64 ((133:Nat):Int)),.d (.list 3 a),.d (.int .i64 ((118:Nat):Int)),.d (.list 2 f)]=some [.row 133 3 a,.row 118 2 f]:=rfl
 have hm:mkAg (zbo mt) [.row 133 3 a,.row 118 2 f] 1=some ([.row 133 3 a',.row 118 2 f'],m2):=by
  simp only [mkAg,List.map_cons,List.map_nil,toD,hs,Option.map_some,ofD]
 simp only [zaQ]
 rw [show (true==true&&decide ((0:Int)≤1))=true from rfl,cond_true,hp]
 simp only [Option.bind_some,hm,decide_eq_true hb,cond_true]
 rfl
theorem znT {a:Ovi.Rows} (ha:Fit Rl (.list 3 a)):depR 0 a=true:=by
 unfold Rl at ha
 simp only [Fit] at ha
 refine List.all_eq_true.2 fun r hr=>?_
 obtain ⟨x0,r0,rfl,h0,hf0⟩:=Fits.cons (ha.2.2 r hr)
 obtain ⟨x1,r1,rfl,h1,hf1⟩:=Fits.cons hf0
 obtain ⟨x2,r2,rfl,h2,hf2⟩:=Fits.cons hf1
 obtain rfl:=Fits.nil hf2
 obtain ⟨s,rfl,_⟩:=h0.str
 obtain ⟨z,rfl,_⟩:=h1.int
 obtain ⟨t,rfl⟩:=h2.bool
 rfl
theorem zdM (xs:List Atom):depR 1 (A1 xs)=true:=by
 refine List.all_eq_true.2 fun r hr=>?_
 obtain ⟨x,_,rfl⟩:=List.mem_map.1 hr
 simp only [List.all_cons,List.all_nil,Bool.and_true,depD,Bool.true_and,List.all_eq_true]
 intro r hr y hy
 obtain ⟨z,_,rfl⟩:=List.mem_map.1 hr
 simp only [List.mem_singleton] at hy
 subst hy
 rfl
theorem e30 {a f a' f':Ovi.Rows} {m m1 m2:Int} (h1:zP zaP a m=some (a',m1)) (h2:zP zae f m1=some (f',m2)) (h0:0≤m) (hb:m2≤4611686018427387904):C (k+1) 30 [.var 0 0,.d (.bool true),.d (.int .i64 m),.d (.int .i64 ((3:Nat):Int)),.d (.list 1 a),.d (.int .i64 ((130:Nat):Int)),.d (.list 2 f)]=some [(false,[.row 3 1 a']),(false,[.row 130 2 f']),(false,[.d (.int .i64 m2)])]:=by
 rw [zd4 (p:=zaQ true (mkAg za4)) rfl]
 have hs:za4 [.list 1 a,.list 2 f] m=some ([.list 1 a',.list 2 f'],m2):=by
  simp only [za4,h1,Option.bind_some,h2,Option.map_some]
 have hp:zaS [.d (.int .i64 ((3:Nat):Int)),.d (.list 1 a),.d (.int .i64 ((130:Nat):Int)),.d (.list 2 f)]=some [.row 3 1 a,.row 130 2 f]:=rfl
 have hm:mkAg za4 [.row 3 1 a,.row 130 2 f] m=some ([.row 3 1 a',.row 130 2 f'],m2):=by
  simp only [mkAg,List.map_cons,List.map_nil,toD,hs,Option.map_some,ofD]
 simp only [zaQ]
 rw [show (true==true&&decide ((0:Int)≤m))=true by rw [decide_eq_true h0];rfl,cond_true,hp]
 simp only [Option.bind_some,hm,decide_eq_true hb,cond_true]
 rfl
theorem zmJ (zs:List Int):depR 0 (I1 zs)=true:=by
 refine List.all_eq_true.2 fun r hr=>?_
 obtain ⟨x,_,rfl⟩:=List.mem_map.1 hr
 rfl
theorem l33 {k:Nat} (hk:2000001≤k) {a:Ovi.Rows} (ha:Fit (.list [.list [.int .i64]]) (.list 1 a)) (hs:szR a≤1048576):∀ (m i n:Nat),i+m=a.length→m < n→F33.L4 k (C k) n a a (i:Int)=some [(false,[.d (.bool true)])]:=by
 have hlen:=ha.len
 intro m;induction m with
 | zero =>
  intro i n hm hn
  obtain ⟨n,rfl⟩:∃ j,n=j+1:=⟨n - 1,by omega⟩
  rw [F33.L4.succ,ite'_f (lt_f (by omega))]
 | succ m ih =>
  intro i n hm hn
  obtain ⟨n,rfl⟩:∃ j,n=j+1:=⟨n - 1,by omega⟩
  obtain ⟨row,hr,hfr,hdr⟩:=ha.row (i:=i) (by omega)
  obtain ⟨d0,rr0,rfl,hd0,hfr0⟩:=Fits.cons hfr
  obtain ⟨x0,rfl,hx0⟩:=hd0.list (n:=1) rfl
  obtain rfl:=Fits.nil hfr0
  have hszr:=zby hr
  rw [F33.L4.succ,ite'_t (lt_t (by omega)),ite'_t (zn (by omega))]
  simp only [Int.toNat_natCast,zG hr,zaq hr,zat hr,zZ hr]
  simp only [List.getElem?_cons_zero,List.getElem?_cons_succ,Option.bind_some,zx,zQ,zR,zL,ze,zu,zE,zh,zj,zw,zI,zM,zt,zK,bne_self_eq_false,beq_self_eq_true,Bool.not_true]
  rw [ite'_t (zn (by omega))]
  rw [c60 (k:=k) (by omega)  hx0 (by simp only [szC,szD] at hszr ⊢;omega)]
  simp only [List.getElem?_cons_zero,List.getElem?_cons_succ,Option.bind_some,zx,zQ,zR,zL,ze,zu,zE,zh,zj,zw,zI,zM,zt,zK,bne_self_eq_false,beq_self_eq_true,Bool.not_true]
  rw [ite'_f rfl,zai (m:=a.length) (by omega) (by omega) hlen]
  rw [show ((i:Int)+1)=((i+1:Nat):Int) by omega]
  exact ih (i+1) n (by omega) (by omega)
theorem c33 {k:Nat} (hk:2000002≤k) {a:Ovi.Rows} (ha:Fit (.list [.list [.int .i64]]) (.list 1 a)) (hs:szD (.list 1 a)≤1048576):C k 33 [.d (.list 1 a),.d (.list 1 a)]=some [(false,[.d (.bool true)])]:=by
 obtain ⟨k,rfl⟩:∃ j,k=j+1:=⟨k - 1,by omega⟩
 simp only [szD] at hs
 rw [F33.run,ite'_f (zgb _)]
 exact l33 (k:=k) (by omega) ha (by omega) a.length 0 k (by omega) (by omega)
theorem zmf (B:BL) (h:∀ b∈B,∀ z∈b,inI z) (hl:B.length≤maxLen) (hb:∀ b∈B,b.length≤maxLen):Fit (.list [.list [.int .i64]]) (.list 1 (LL B)):=by
 simp only [Fit]
 refine ⟨rfl,by rw [zA];exact hl,fun r hr=>?_⟩
 obtain ⟨b,hb',rfl⟩:=List.mem_map.1 hr
 simp only [Fits,Fit]
 refine ⟨⟨rfl,by rw [zl];exact hb b hb',fun r hr=>?_⟩,trivial⟩
 obtain ⟨z,hz,rfl⟩:=List.mem_map.1 hr
 simp only [Fits,Fit]
 have hz':=h b hb' z hz
 unfold inI at hz'
 refine ⟨⟨trivial,?_⟩,trivial⟩
 simp only [Lit.wf,IntKind.min,IntKind.max,IntKind.signed,IntKind.bits,Bool.and_eq_true,decide_eq_true_eq]
 simpa using hz'
def tot (B:BL):Nat:=(B.map List.length).sum
theorem zmY (B:BL):szD (.list 1 (LL B))=B.length+tot B:=by
 have hI:∀ zs:List Int,szR (I1 zs)=0:=fun zs=>by
  induction zs with
  | nil=>rfl
  | cons z r ih=>simpa [I1,szR,szC,szD] using ih
 simp only [szD,zA]
 congr 1
 induction B with
 | nil=>rfl
 | cons b r ih =>
  simp only [LL,List.map_cons,szR,szC,szD,tot,List.sum_cons,hI,zl] at ih ⊢
  omega
theorem zmS (B:BL) (m:Int):∃ ys,zP zaM (LL B) m=some (ys,m+(tot B:Nat)):=by
 obtain ⟨ys,h⟩:=zbV (step:=zaM) (c:=fun r=>match r with | [.list _ l]=>l.length | _=>0) (xs:=LL B) (fun r hr k=>by
  obtain ⟨b,_,rfl⟩:=List.mem_map.1 hr
  obtain ⟨ys,h⟩:=zir b k
  refine ⟨[.list 1 ys],?_⟩
  simp only [zaM,h,Option.map_some,zl]) m
 refine ⟨ys,?_⟩
 rw [h]
 congr 2
 have:((LL B).map fun r=>match r with | [.list _ l]=>l.length | _=>0).sum=tot B:=by
  clear h
  unfold tot
  induction B with
  | nil=>rfl
  | cons x r ih =>
   simp only [LL,List.map_cons,List.sum_cons,zl] at ih ⊢
   omega
 rw [this]
theorem c35 {xs ys:Ovi.Rows} {m m':Int} (h:zP zaM xs m=some (ys,m')) (h0:0≤m) (h1:m'≤4611686018427387904) (hl:ys.length≤1048576) (hin:∀ r∈xs,∀ l,r=[.list 1 l]→l.length≤1048576) (hk:2000000≤k):C (k+2) 35 [.d (.list 1 ys),.d (.int .i64 m)]=some [(false,[.d (.int .i64 m')])]:=by
 have hmax:(1048576:Nat)≤maxLen:=by decide
 obtain ⟨κ,q0,q1,q2,q3⟩:=zdA h
 rw [F35.run]
 have key:∀ (a i n:Nat),i+a=ys.length→a < n→F35.L2 (k+1) (C (k+1)) n ys (κ i) (i:Int)=some [(false,[.d (.int .i64 m')])]:=by
  intro a
  induction a with
  | zero =>
   intro i n hm hn
   obtain ⟨n,rfl⟩:∃ j,n=j+1:=⟨n - 1,by omega⟩
   obtain rfl:i=ys.length:=by omega
   rw [F35.L2.succ,ite'_f (lt_f (by omega)),q1]
  | succ a ih =>
   intro i n hm hn
   obtain ⟨n,rfl⟩:∃ j,n=j+1:=⟨n - 1,by omega⟩
   have hi:i < ys.length:=by omega
   obtain ⟨r,r',p1,p2,p3⟩:=q3 i hi
   obtain ⟨l,l',rfl,hm1,rfl⟩:=zcY p3
   have b1:=zeB zb5 q3 (Nat.zero_le i) (by omega)
   have b2:=zeB zb5 q3 (show i+1≤ys.length by omega) (Nat.le_refl _)
   have b3:=zab zaD hm1
   have b4:=hin _ (List.mem_of_getElem? p1) l rfl
   rw [F35.L2.succ,ite'_t (lt_t hi),ite'_t (zn hi)]
   simp only [Int.toNat_natCast,zZ p2,List.getElem?_cons_zero,Option.bind_some,zL,zh]
   rw [c109 hm1 (by omega) (by omega) (by omega) hk]
   simp only [zj,zw,ze]
   rw [ite'_f (zaC (by omega)),zai (m:=ys.length) (by omega) (by omega) (by omega),show ((i:Int)+1)=((i+1:Nat):Int) by omega]
   exact ih (i+1) n (by omega) (by omega)
 have:=key ys.length 0 (k+1) (by omega) (by omega)
 rwa [q0] at this
theorem e34 {a a':Ovi.Rows} {m:Int} (h1:zP zaM a 1=some (a',m)) (hb:m≤4611686018427387904):C (k+1) 34 [.var 0 0,.d (.bool false),.d (.int .i64 1),.d (.int .i64 ((39:Nat):Int)),.d (.list 1 a)]=some [(false,[.row 39 1 a']),(false,[.d (.int .i64 m)])]:=by
 rw [zd4 (p:=zaQ false (mkLs 1 (zP zaM))) rfl]
 have hp:zaS [.d (.int .i64 ((39:Nat):Int)),.d (.list 1 a)]=some [.row 39 1 a]:=rfl
 have hm:mkLs 1 (zP zaM) [.row 39 1 a] 1=some ([.row 39 1 a'],m):=by
  simp only [mkLs,show Nat.beq 1 1=true from rfl,cond_true,h1,Option.map_some]
 simp only [zaQ]
 rw [show (false==false&&decide ((0:Int)≤1))=true from rfl,cond_true,hp]
 simp only [Option.bind_some,hm,decide_eq_true hb,cond_true]
 rfl
theorem zfA (B:BL):depR 1 (LL B)=true:=by
 refine List.all_eq_true.2 fun r hr=>?_
 obtain ⟨x,_,rfl⟩:=List.mem_map.1 hr
 simp only [List.all_cons,List.all_nil,Bool.and_true,depD,Bool.true_and,List.all_eq_true]
 intro r hr y hy
 obtain ⟨z,_,rfl⟩:=List.mem_map.1 hr
 simp only [List.mem_singleton] at hy
 subst hy
 rfl
def Dt:Ty:=.list [.list [.int .i64,.list [.int .i64]],.list [.int .i64,.list [.int .i64]],.bool,.int .i64,.int .i64]
theorem zmM {a:Ovi.Rows} (h:Fit Dt (.list 5 a)):∃ ds:List Dep,a=DD ds:=by
 simp only [Fit,Dt] at h
 replace h:=h.2.2
 induction a with
 | nil=>exact ⟨[],rfl⟩
 | cons r rs ih =>
  obtain ⟨d0,r0,rfl,h0,hr⟩:=Fits.cons (h r List.mem_cons_self)
  obtain ⟨d1,r1,rfl,h1,hr⟩:=Fits.cons hr
  obtain ⟨d2,r2,rfl,h2,hr⟩:=Fits.cons hr
  obtain ⟨d3,r3,rfl,h3,hr⟩:=Fits.cons hr
  obtain ⟨d4,r4,rfl,h4,hr⟩:=Fits.cons hr
  obtain rfl:=Fits.nil hr
  obtain ⟨b,rfl,hb⟩:=h0.list (n:=2) rfl
  obtain ⟨c,rfl,hc⟩:=h1.list (n:=2) rfl
  obtain ⟨e,rfl⟩:=h2.bool
  obtain ⟨x,rfl,_⟩:=h3.int
  obtain ⟨y,rfl,_⟩:=h4.int
  obtain ⟨bs,rfl,_⟩:=hb.atoms'
  obtain ⟨cs,rfl,_⟩:=hc.atoms'
  obtain ⟨ds,e⟩:=ih (fun x hx=>h x (List.mem_cons_of_mem _ hx))
  exact ⟨⟨bs,cs,_,x,y⟩::ds,by rw [e];rfl⟩
theorem zoS {ds:List Dep} (h:szD (.list 5 (DD ds))≤1048576):ds.length≤1048576∧∀ d∈ds,Dsz d:=by
 simp only [szD,zbs] at h
 refine ⟨by omega,fun d hd=>?_⟩
 obtain ⟨i,hi⟩:=List.mem_iff_getElem?.1 hd
 have:=zby (zd5 hi)
 simp only [szC,zfc] at this
 unfold Dsz
 have e1:szD (.list 2 (A1 d.body))=d.body.length+zF d.body:=zfc
 have e2:szD (.list 2 (A1 d.head))=d.head.length+zF d.head:=zfc
 omega
def fc (b:Ovi.Rows):Nat:=(b.map fun r=>match r with | [_,.list _ l]=>1+l.length | _=>0).sum
theorem znq (xs:List Atom):fc (A1 xs)=xs.length+zF xs:=by
 unfold fc
 induction xs with
 | nil=>rfl
 | cons x r ih =>
  simp only [A1,List.map_cons,List.sum_cons,List.length_cons,zF,zl] at ih ⊢
  omega
def dc (r:List D):Nat:=match r with
 | [.list _ b,.list _ h,_,_,_]=>fc b+fc h+3
 | _=>0
theorem zmA {α:Type} (c:α→Nat) (B:Nat):∀ l:List α,(∀ x∈l,c x≤B)→(l.map c).sum≤B * l.length
 | [],_=>by simp
 | x::r,h=>by
  have h1:=h x List.mem_cons_self
  have h2:=zmA c B r fun y hy=>h y (List.mem_cons_of_mem _ hy)
  simp only [List.map_cons,List.sum_cons,List.length_cons,Nat.mul_add,Nat.mul_one]
  omega
theorem znS (ds:List Dep) (hz:∀ d∈ds,Dsz d) (m:Int):∃ ys m',zP za6 (DD ds) m=some (ys,m')∧m≤m'∧m'≤m+2097155 * (ds.length:Int):=by
 obtain ⟨ys,h⟩:=zbV (step:=za6) (c:=dc) (xs:=DD ds) (fun r hr k=>by
  obtain ⟨d,_,rfl⟩:=List.mem_map.1 hr
  obtain ⟨b',hb⟩:=zeJ d.body k
  obtain ⟨h',hh⟩:=zeJ d.head (k+(d.body.length+zF d.body:Nat))
  refine ⟨[.list 2 b',.list 2 h',.bool ((k+(d.body.length+zF d.body:Nat)+(d.head.length+zF d.head:Nat)) % 3==0),.int .i64 (k+(d.body.length+zF d.body:Nat)+(d.head.length+zF d.head:Nat)+1),.int .i64 (k+(d.body.length+zF d.body:Nat)+(d.head.length+zF d.head:Nat)+1+1)],?_⟩
  simp only [za6,hb,Option.bind_some,hh,Option.map_some,dc,znq,Option.some.injEq,Prod.mk.injEq,true_and]
  omega) m
 refine ⟨ys,_,h,by omega,?_⟩
 have:=zmA dc 2097155 (DD ds) fun r hr=>by
  obtain ⟨d,hd,rfl⟩:=List.mem_map.1 hr
  have:=hz d hd
  unfold Dsz at this
  simp only [dc,znq]
  omega
 rw [zbs] at this
 omega
theorem e52 {a a':Ovi.Rows} {m m2:Int} (h1:zP za6 a m=some (a',m2)) (h0:0≤m) (hb:m2≤4611686018427387904):C (k+1) 52 [.var 0 0,.d (.bool false),.d (.int .i64 m),.d (.int .i64 ((157:Nat):Int)),.d (.list 5 a)]=some [(false,[.row 157 5 a']),(false,[.d (.int .i64 m2)])]:=by
 rw [zd4 (p:=zaQ false (mkLs 5 (zP za6))) rfl]
 have hp:zaS [.d (.int .i64 ((157:Nat):Int)),.d (.list 5 a)]=some [.row 157 5 a]:=rfl
 have hm:mkLs 5 (zP za6) [.row 157 5 a] m=some ([.row 157 5 a'],m2):=by
  simp only [mkLs,show Nat.beq 5 5=true from rfl,cond_true,h1,Option.map_some]
 simp only [zaQ]
 rw [show (false==false&&decide ((0:Int)≤m))=true by rw [decide_eq_true h0];rfl,cond_true,hp]
 simp only [Option.bind_some,hm,decide_eq_true hb,cond_true]
 rfl
theorem zmI (ds:List Dep):depR 2 (DD ds)=true:=by
 refine List.all_eq_true.2 fun r hr=>?_
 obtain ⟨d,_,rfl⟩:=List.mem_map.1 hr
 have hb:=zdM d.body
 have hh:=zdM d.head
 simp only [List.all_cons,List.all_nil,Bool.and_true,depD,Bool.true_and]
 unfold depR at hb hh
 rw [hb,hh]
 rfl
end Go.Proofs.YthicohakeljdcaaGreat.Q
namespace Go.Proofs.YthicohakeljdcaaGreat.Q
open Go Ovi
variable {k:Nat}
def val (b:List Int) (t:Int):Int:=if t ≥ 0 then b.getD t.toNat 0 else neg t
def insG (b:List Int):List Int→Option (List Int)
 | []=>some []
 | t::ts=>if okV (val b t) then (insG b ts).map (val b t::·) else none
def okO (r:Int) (acc:List Int):Option (List Int)→Option Res
 | some vs=>okI r (acc++vs)
 | none=>some [(true,[.d (.int .i64 0),.nil]),(false,[.d (.bool false)])]
theorem zeW {r:Int} {acc:List Int} {v:Int} {b ts:List Int} {t:Int} (h:okV (val b t)=true) (hv:v=val b t):okO r (acc++[v]) (insG b ts)=okO r acc (insG b (t::ts)):=by
 subst hv
 rw [insG,if_pos h]
 cases insG b ts with
 | none=>rfl
 | some vs=>simp [okO]
theorem zke {r:Int} {acc:List Int} {b ts:List Int} {t:Int} (h:okV (val b t)=false):okO r acc (insG b (t::ts))=some [(true,[.d (.int .i64 0),.nil]),(false,[.d (.bool false)])]:=by
 rw [insG,if_neg (by rw [h];decide)]
 rfl
theorem l97g (ts b:List Int) (r:Int) (hT:okT ts) (hz:ts.length≤1048576) (hb:b.length=5):∀ (m i n:Nat) (acc:List Int),i+m=ts.length→m < n→acc.length≤i→F97.L3 (k+2) (C (k+2)) n (I1 b) (I1 ts) (ts.length:Int) (i:Int) 0 [] r (I1 acc)=okO r acc (insG b (ts.drop i)):=by
 have hmax:(1048576:Nat)≤maxLen:=by decide
 intro m
 induction m with
 | zero =>
  intro i n acc hm hn ha
  obtain ⟨n,rfl⟩:∃ j,n=j+1:=⟨n - 1,by omega⟩
  obtain rfl:i=ts.length:=by omega
  rw [F97.L3.succ,ite'_f (lt_f (by omega)),List.drop_length,insG,okO,List.append_nil]
  rfl
 | succ m ih =>
  intro i n acc hm hn ha
  obtain ⟨n,rfl⟩:∃ j,n=j+1:=⟨n - 1,by omega⟩
  have hi:i < ts.length:=by omega
  have hg:=List.getElem?_eq_getElem hi
  have ht:=hT _ (List.getElem_mem hi)
  have hnx:=fun v=>ih (i+1) n (acc++[v]) (by omega) (by omega) (by rw [List.length_append,List.length_singleton];omega)
  rw [F97.L3.succ,ite'_t (lt_t hi),zl,ite'_t (zn hi),I1_c hg,ze,List.drop_eq_getElem_cons hi,zy hi (m:=ts.length) (by omega)]
  by_cases h0:ts[i] ≥ 0
  ·obtain ⟨q,hq⟩:∃ q:Nat,ts[i]=(q:Int):=⟨ts[i].toNat,by omega⟩
   have hq5:q < b.length:=by omega
   have hbq:b[q]? = some (b.getD q 0):=by rw [List.getD_eq_getElem?_getD,List.getElem?_eq_getElem hq5];rfl
   have hvl:val b ts[i]=b.getD q 0:=by unfold val;rw [if_pos h0,hq,Int.toNat_natCast]
   rw [ite'_t (by simpa using h0),hq,zl,ite'_f (decide_eq_false (by omega)),ite'_t (zn hq5),I1_c hbq,ze,c165 (k:=k) _,bB,← hvl,← hq]
   cases hok:okV (val b ts[i]) with
   | false=>rw [zke hok];rfl
   | true =>
    rw [ite'_nt,zl,ite'_t (zS (by simp only [List.length_cons,List.length_nil];omega)),zbK,hnx,zeW hok rfl]
  ·have hvl:val b ts[i]=neg ts[i]:=by unfold val;rw [if_neg h0]
   rw [ite'_f (by simpa using h0),znw ht,c165 (k:=k),bB,zhS ht,ite'_nt,zl,ite'_t (zS (by simp only [List.length_cons,List.length_nil];omega)),zbK,hnx,zeW (by rw [hvl];exact zhS ht) hvl.symm]
theorem c97g (x:Atom) (b:List Int) (hT:okT x.2) (hz:x.2.length≤1048576) (hb:b.length=5) (hk:2000000≤k):C (k+3) 97 [.agg [.d (.int .i64 x.1),.d (.list 1 (I1 x.2))],.d (.list 1 (I1 b))]=okO x.1 [] (insG b x.2):=by
 rw [F97.run,zl]
 exact l97g x.2 b x.1 hT hz hb x.2.length 0 (k+2) [] (by omega) (by omega) (Nat.le_refl _)
theorem l90g (ts b:List Int) (r:Int) (hT:okT ts) (hz:ts.length≤1048576) (hb:b.length=5) (hI:∀ v∈b,inI v):∀ (m i n:Nat) (acc:List Int),i+m=ts.length→m < n→acc.length≤i→F90.L3 (k+3) (C (k+3)) n (I1 b) (i:Int) r (I1 ts) 0 [] r (I1 acc)=okO r acc (insG b (ts.drop i)):=by
 have hmax:(1048576:Nat)≤maxLen:=by decide
 intro m
 induction m with
 | zero =>
  intro i n acc hm hn ha
  obtain ⟨n,rfl⟩:∃ j,n=j+1:=⟨n - 1,by omega⟩
  obtain rfl:i=ts.length:=by omega
  rw [F90.L3.succ,zl,ite'_f (lt_f (by omega)),List.drop_length,insG,okO,List.append_nil]
  rfl
 | succ m ih =>
  intro i n acc hm hn ha
  obtain ⟨n,rfl⟩:∃ j,n=j+1:=⟨n - 1,by omega⟩
  have hi:i < ts.length:=by omega
  have hg:=List.getElem?_eq_getElem hi
  have ht:=hT _ (List.getElem_mem hi)
  have hnx:=fun v=>ih (i+1) n (acc++[v]) (by omega) (by omega) (by rw [List.length_append,List.length_singleton];omega)
  rw [F90.L3.succ,zl,ite'_t (lt_t hi),ite'_t (zn hi),I1_c hg,ze,ite'_t (zn hi),ze,List.drop_eq_getElem_cons hi,zy hi (m:=ts.length) (by omega)]
  by_cases h0:ts[i] ≥ 0
  ·obtain ⟨q,hq⟩:∃ q:Nat,ts[i]=(q:Int):=⟨ts[i].toNat,by omega⟩
   have hq5:q < b.length:=by omega
   have hbq:b[q]? = some (b.getD q 0):=by rw [List.getD_eq_getElem?_getD,List.getElem?_eq_getElem hq5];rfl
   have hvl:val b ts[i]=b.getD q 0:=by unfold val;rw [if_pos h0,hq,Int.toNat_natCast]
   have hin:inI (b.getD q 0):=hI _ (List.mem_of_getElem? hbq)
   rw [ite'_t (by simpa using h0),ite'_t (zn hi),ze,hq,zl,ite'_f (decide_eq_false (by omega)),ite'_t (zn hi),ze,ite'_t (zn hq5),I1_c hbq,ze,c157 (k:=k) hin,bB,← hvl,← hq]
   cases hok:okV (val b ts[i]) with
   | false=>rw [zke hok];rfl
   | true =>
    rw [ite'_nt,ite'_t (zn hi),ze,ite'_f (decide_eq_false (by omega)),zl,ite'_t (zS (by simp only [List.length_cons,List.length_nil];omega)),zbK,hnx,zeW hok rfl]
  ·have hvl:val b ts[i]=neg ts[i]:=by unfold val;rw [if_neg h0]
   rw [ite'_f (by simpa using h0),znw ht,c157 (k:=k) (zpk ht),bB,zhS ht,ite'_nt,ite'_t (zn hi),ze,ite'_t (decide_eq_true (by omega)),ite'_f (decide_eq_false (by unfold neg;omega)),zl,ite'_t (zS (by simp only [List.length_cons,List.length_nil];omega)),zbK,hnx,zeW (by rw [hvl];exact zhS ht) hvl.symm]
theorem c90g (x:Atom) (b:List Int) (hT:okT x.2) (hz:x.2.length≤1048576) (hb:b.length=5) (hI:∀ v∈b,inI v) (hk:2000000≤k):C (k+4) 90 [.agg [.d (.int .i64 x.1),.d (.list 1 (I1 x.2))],.d (.list 1 (I1 b))]=okO x.1 [] (insG b x.2):=by
 rw [F90.run]
 exact l90g x.2 b x.1 hT hz hb hI x.2.length 0 (k+3) [] (by omega) (by omega) (Nat.le_refl _)
theorem zj2 {b:List Int}:∀ {ts vs:List Int},insG b ts=some vs→vs.length=ts.length
 | [],vs,h=>by cases h;rfl
 | t::ts,vs,h=>by
  rw [insG] at h
  by_cases hok:okV (val b t)=true
  ·rw [if_pos hok] at h
   obtain ⟨ws,hw,rfl⟩:=Option.map_eq_some_iff.1 h
   rw [List.length_cons,List.length_cons,zj2 hw]
  ·rw [if_neg hok] at h;cases h
theorem c202 (xs:List Atom) (f:Atom) (hx:∀ x∈xs,x.2.length≤1048576) (hl:xs.length≤1048576) (hk:2000000≤k):C (k+12) 202 [.d (.list 2 (A1 xs)),.agg [.d (.int .i64 f.1),.d (.list 1 (I1 f.2))]]=bo (decide (f∈xs)):=by
 have hmax:(1048576:Nat)≤maxLen:=by decide
 have e164:C (k+11) 245 [.d (.list 2 (A1 xs)),.d (.fn 246 [[.int .i64 f.1,.list 1 (I1 f.2)]])]=bo (xs.any fun x=>decide (x=f)):=by
  rw [F245.run,F273.run,zo]
  have:=zak (xs:=xs) (L:=fun n i=>F273.L2 (k+9) (C (k+9)) n (A1 xs) 246 [[.int .i64 f.1,.list 1 (I1 f.2)]] (xs.length:Int) i) (stop:=fun _ x=>decide (x=f)) (hit:=fun i=>some [(false,[.d (.int .i64 (i:Int))])]) (fin:=some [(false,[.d (.int .i64 (-1))])])
   (fun n i x hxi=>by
    have hi:=(List.getElem?_eq_some_iff.1 hxi).1
    have hxl:=hx x (List.mem_of_getElem? hxi)
    have e165:C (k+9) 246 [.agg [.d (.int .i64 x.1),.d (.list 1 (I1 x.2))],.cap [.int .i64 f.1,.list 1 (I1 f.2)] 0]=bo (decide (x=f)):=by
     rw [F246.run,F171.run,c169 (k:=k+2) x f (by omega) (by omega),iB']
     have:(cmpF x f==0)=decide (x=f):=by
      rw [Bool.eq_iff_iff,beq_iff_eq,decide_eq_true_eq]
      exact ziH x f
     rw [this];rfl
    rw [F273.L2.succ,zo,ite'_t (lt_t hi),ite'_t (zn hi),zaT hxi,ze,zaU hxi,zh,zy hi (m:=xs.length) (by omega)]
    simp only [List.map_cons,List.map_nil,List.append_eq,List.nil_append] at e165 ⊢
    rw [e165,bB];rfl)
   (fun n=>by rw [F273.L2.succ,ite'_f (lt_f (by omega))]) (k+9) (by omega)
  rcases this with ⟨i,x,hxi,hst,e⟩ | ⟨hst,e⟩
  ·rw [show F273.L2 (k+9) (C (k+9)) (k+9) (A1 xs) 246 [[.int .i64 f.1,.list 1 (I1 f.2)]] (xs.length:Int) 0=_ from e]
   simp only [zj,zw,ze]
   exact zar (by rw [List.any_eq_true.2 ⟨x,List.mem_of_getElem? hxi,hst⟩];simp)
  ·rw [show F273.L2 (k+9) (C (k+9)) (k+9) (A1 xs) 246 [[.int .i64 f.1,.list 1 (I1 f.2)]] (xs.length:Int) 0=_ from e]
   simp only [zj,zw,ze]
   refine zar ?_
   rw [List.any_eq_false.2 (fun x hxm=>?_)]
   ·rfl
   ·obtain ⟨i,hi⟩:=List.mem_iff_getElem?.1 hxm
    simpa using hst i x hi
 rw [F202.run,e164,bB]
 refine zar ?_
 rw [Bool.eq_iff_iff]
 simp
end Go.Proofs.YthicohakeljdcaaGreat.Q
namespace Go.Proofs.YthicohakeljdcaaGreat.Q
open Go Ovi
variable {k:Nat}
def ia (a:Ovi.Rows) (fs:List Atom):AV:=.agg [.d (.list 3 a),.d (.list 2 (A1 fs))]
def Inst (a:Ovi.Rows) (fs:List Atom) (ib:Bool):Prop:=∀ k,2000000≤k→C (k+8) 100 [ia a fs]=bo ib∧C (k+8) 67 [ia a fs]=bo ib
def DepY (a:Ovi.Rows) (d:Dep):Prop:=DepOk a d.body d.head d.egd d.l d.r∧∀ k,2000000≤k→C (k+12) 189 [.d (.list 3 a),da d]=bo true∧C (k+12) 183 [.d (.list 3 a),da d]=bo true
def zaZ (fs:List Atom) (b:List Int) (x:Atom):Bool:=match insG b x.2 with
 | none=>true
 | some vs=>!decide ((x.1,vs)∈fs)
theorem zdz {fs:List Atom} {b:List Int} {x:Atom} (h:insG b x.2=none):zaZ fs b x=true:=by unfold zaZ;rw [h]
theorem zfP {fs:List Atom} {b:List Int} {x:Atom} {vs:List Int} (h:insG b x.2=some vs):zaZ fs b x=!decide ((x.1,vs)∈fs):=by unfold zaZ;rw [h]
noncomputable def zbO (body:List Atom) (i:Nat) (v:Int):Bool:=(decide (v=10))==@decide (zY body (i:Int)) (Classical.propDecidable _)
theorem trig {a:Ovi.Rows} {fs:List Atom} {ib:Bool} {d:Dep} (hi:Inst a fs ib) (hd:DepY a d) (hz:Dsz d) (b:List Int) (hI:∀ v∈b,inI v) (hb:b.length≤1048576) (hf:∀ x∈fs,x.2.length≤1048576) (hfl:fs.length≤1048576) :
  ∃ tb,(tb=true→ib=true∧b.length=5∧(∀ i v,b[i]? = some v→zbO d.body i v=false)∧∀ x∈d.body,zaZ fs b x=false) ∧
   ∀ k,2000000≤k→C (k+16) 134 [ia a fs,da d,.d (.list 1 (I1 b))]=bo tb∧C (k+16) 129 [ia a fs,da d,.d (.list 1 (I1 b))]=bo tb:=by
 have hmax:(1048576:Nat)≤maxLen:=by decide
 obtain ⟨hD,hdk⟩:=hd
 have hbody:=hD.bv
 unfold Inst ia at *
 unfold da at *
 cases ib with
 | false =>
  refine ⟨false,fun h=>(by cases h),fun k hk=>?_⟩
  have h:=hi (k+7) (by omega)
  rw [F134.run,F129.run,h.1,h.2,bB,bB,ite'_nf,ite'_nf]
  exact ⟨rfl,rfl⟩
 | true =>
  by_cases h5:b.length=5
  ·have e4:∀ k,2000000≤k→F134.L11 (k+15) (C (k+15)) (k+15) (I1 b) (A1 d.body) (d.body.length:Int) 0 a (A1 fs)=cond (d.body.any (zaZ fs b)) (bo false) (bo true):=fun k hk =>
    zbc (xs:=d.body) (L:=fun n i=>F134.L11 (k+15) (C (k+15)) n (I1 b) (A1 d.body) (d.body.length:Int) i a (A1 fs)) (stop:=zaZ fs b) (hit:=bo false) (fin:=bo true)
     (fun n i x hx=>by
      have hi:=(List.getElem?_eq_some_iff.1 hx).1
      have hm:=List.mem_of_getElem? hx
      have hl:=zaa hm
      have hz1:=hz.1
      rw [F134.L11.succ,ite'_t (lt_t hi),zo,ite'_t (zn hi),zaT hx,ze,zaU hx,zh,c97g (k:=k+12) x b (hbody x hm).2.2 (by omega) h5 (by omega),zy hi (m:=d.body.length) (by omega)]
      cases hins:insG b x.2 with
      | none=>rw [zdz hins];rfl
      | some vs =>
       rw [zfP hins,okO,List.nil_append,zny,ite'_nt,c202 (k:=k+3) fs (x.1,vs) hf hfl (by omega),bB]
       cases decide ((x.1,vs)∈fs)<;>rfl)
     (fun n=>by rw [F134.L11.succ,ite'_f (lt_f (by omega))];rfl) (k+15) (by have:=hD.b2;omega)
   have e10:∀ k,2000000≤k→F129.L10 (k+15) (C (k+15)) (k+15) (I1 b) 0 a (A1 fs) (A1 d.body) (A1 d.head) d.egd d.l d.r=cond (d.body.any (zaZ fs b)) (bo false) (bo true):=fun k hk =>
    zbc (xs:=d.body) (L:=fun n i=>F129.L10 (k+15) (C (k+15)) n (I1 b) i a (A1 fs) (A1 d.body) (A1 d.head) d.egd d.l d.r) (stop:=zaZ fs b) (hit:=bo false) (fin:=bo true)
     (fun n i x hx=>by
      have hi:=(List.getElem?_eq_some_iff.1 hx).1
      have hm:=List.mem_of_getElem? hx
      have hl:=zaa hm
      have hz1:=hz.1
      rw [F129.L10.succ,zo,ite'_t (lt_t hi),ite'_t (zn hi),zaT hx,ze,zaU hx,zh,c90g (k:=k+11) x b (hbody x hm).2.2 (by omega) h5 hI (by omega),zy hi (m:=d.body.length) (by omega)]
      cases hins:insG b x.2 with
      | none=>rw [zdz hins];rfl
      | some vs =>
       rw [zfP hins]
       obtain ⟨n1,g1,g2⟩:=c158 (k:=k+11) (a:=a) fs (x.1,vs) hf hfl (by omega)
       rw [okO,List.nil_append,zny,ite'_nt,g1,iB']
       by_cases hmem:(x.1,vs)∈fs
       ·have:=g2.2 hmem
        rw [ite'_f (decide_eq_false (by omega)),decide_eq_true hmem];rfl
       ·have:¬ n1 ≥ 0:=fun h=>hmem (g2.1 h)
        rw [ite'_t (decide_eq_true (by omega)),decide_eq_false hmem];rfl)
     (fun n=>by rw [F129.L10.succ,zo,ite'_f (lt_f (by omega))];rfl) (k+15) (by have:=hD.b2;omega)
   have key:∃ st:Bool,(st=false→∀ i v,b[i]? = some v→zbO d.body i v=false)∧∀ k,2000000≤k→∀ v1 v2,(∀ z,z∈v1↔zY d.body z)→(∀ z,z∈v2↔zY d.body z)→v1.length≤1048576→v2.length≤1048576 →
     F134.L5 (k+15) (C (k+15)) (k+15) (I1 b) (I1 b) (b.length:Int) 0 a (A1 fs) (A1 d.body) (A1 d.head) d.egd d.l d.r (I1 v1)=cond st (bo false) (cond (d.body.any (zaZ fs b)) (bo false) (bo true)) ∧
     F129.L5 (k+15) (C (k+15)) (k+15) (I1 b) (I1 v2) 0 a (A1 fs) (A1 d.body) (A1 d.head) d.egd d.l d.r=cond st (bo false) (cond (d.body.any (zaZ fs b)) (bo false) (bo true)):=by
    have s1:∀ k,2000000≤k→∀ v1,(∀ z,z∈v1↔zY d.body z)→v1.length≤1048576→∀ (n i:Nat) v,b[i]? = some v→F134.L5 (k+15) (C (k+15)) (n+1) (I1 b) (I1 b) (b.length:Int) (i:Int) a (A1 fs) (A1 d.body) (A1 d.head) d.egd d.l d.r (I1 v1)=cond (zbO d.body i v) (bo false) (F134.L5 (k+15) (C (k+15)) n (I1 b) (I1 b) (b.length:Int) ((i+1:Nat):Int) a (A1 fs) (A1 d.body) (A1 d.head) d.egd d.l d.r (I1 v1)):=by
     intro k hk v1 w1 w2 n i v hv
     have hi:=(List.getElem?_eq_some_iff.1 hv).1
     rw [F134.L5.succ,ite'_t (lt_t hi),zl,ite'_t (zn hi),I1_c hv,ze,c83 (k:=k+13) v1 (i:Int) (by omega) (by omega),bB,zcB w1,zy hi (m:=b.length) (by omega)]
     have e:(!((v != (10:Int))==vB d.body (i:Int)))=zbO d.body i v:=by
      unfold zbO vB
      have h10:(v != (10:Int))=!decide (v=10):=rfl
      rw [h10]
      cases decide (v=10)<;>cases @decide (zY d.body (i:Int)) (Classical.propDecidable _)<;>rfl
     rw [e];rfl
    have s2:∀ k,2000000≤k→∀ v1,(∀ z,z∈v1↔zY d.body z)→v1.length≤1048576→∀ (n i:Nat) v,b[i]? = some v→F129.L5 (k+15) (C (k+15)) (n+1) (I1 b) (I1 v1) (i:Int) a (A1 fs) (A1 d.body) (A1 d.head) d.egd d.l d.r=cond (zbO d.body i v) (bo false) (F129.L5 (k+15) (C (k+15)) n (I1 b) (I1 v1) ((i+1:Nat):Int) a (A1 fs) (A1 d.body) (A1 d.head) d.egd d.l d.r):=by
     intro k hk v1 w1 w2 n i v hv
     have hi:=(List.getElem?_eq_some_iff.1 hv).1
     rw [F129.L5.succ,zl,ite'_t (lt_t hi),c81 (k:=k+14) v1 (i:Int) (by omega) (by omega),bB,zcB w1,ite'_t (zn hi),I1_c hv,ze,F196.run,zy hi (m:=b.length) (by omega)]
     simp only [zj,zw,ze]
     have e:(vB d.body (i:Int)==(v==(10:Int)))=zbO d.body i v:=by
      unfold zbO vB
      have:(v==(10:Int))=decide (v=10):=rfl
      rw [this]
      cases decide (v=10)<;>cases @decide (zY d.body (i:Int)) (Classical.propDecidable _)<;>rfl
     rw [e];rfl
    by_cases hall:∀ (i:Nat) v,b[i]? = some v→zbO d.body i v=false
    ·refine ⟨false,fun _=>hall,fun k hk v1 v2 w1 w2 u1 u2=>⟨?_,?_⟩⟩
     ·rcases zak (L:=fun n i=>F134.L5 (k+15) (C (k+15)) n (I1 b) (I1 b) (b.length:Int) i a (A1 fs) (A1 d.body) (A1 d.head) d.egd d.l d.r (I1 v1)) (stop:=zbO d.body) (hit:=fun _=>bo false) (s1 k hk v1 w1 u1) (fun n=>by rw [F134.L5.succ,ite'_f (lt_f (by omega)),zo,e4 k hk]) (k+15) (by omega) with ⟨i,x,hx,hst,_⟩ | ⟨_,h⟩
      ·rw [hall i x hx] at hst;cases hst
      ·exact h
     ·rcases zak (L:=fun n i=>F129.L5 (k+15) (C (k+15)) n (I1 b) (I1 v2) i a (A1 fs) (A1 d.body) (A1 d.head) d.egd d.l d.r) (stop:=zbO d.body) (hit:=fun _=>bo false) (s2 k hk v2 w2 u2) (fun n=>by rw [F129.L5.succ,zl,ite'_f (lt_f (by omega)),e10 k hk]) (k+15) (by omega) with ⟨i,x,hx,hst,_⟩ | ⟨_,h⟩
      ·rw [hall i x hx] at hst;cases hst
      ·exact h
    ·refine ⟨true,fun h=>(by cases h),fun k hk v1 v2 w1 w2 u1 u2=>⟨?_,?_⟩⟩
     ·rcases zak (L:=fun n i=>F134.L5 (k+15) (C (k+15)) n (I1 b) (I1 b) (b.length:Int) i a (A1 fs) (A1 d.body) (A1 d.head) d.egd d.l d.r (I1 v1)) (stop:=zbO d.body) (hit:=fun _=>bo false) (s1 k hk v1 w1 u1) (fun n=>by rw [F134.L5.succ,ite'_f (lt_f (by omega)),zo,e4 k hk]) (k+15) (by omega) with ⟨i,x,hx,hst,h⟩ | ⟨h,_⟩
      ·exact h
      ·exact absurd h hall
     ·rcases zak (L:=fun n i=>F129.L5 (k+15) (C (k+15)) n (I1 b) (I1 v2) i a (A1 fs) (A1 d.body) (A1 d.head) d.egd d.l d.r) (stop:=zbO d.body) (hit:=fun _=>bo false) (s2 k hk v2 w2 u2) (fun n=>by rw [F129.L5.succ,zl,ite'_f (lt_f (by omega)),e10 k hk]) (k+15) (by omega) with ⟨i,x,hx,hst,h⟩ | ⟨h,_⟩
      ·exact h
      ·exact absurd h hall
   obtain ⟨st,hst,hkey⟩:=key
   refine ⟨cond st false (!(d.body.any (zaZ fs b))),fun h=>?_,fun k hk=>?_⟩
   ·cases st with
    | true=>cases h
    | false =>
     simp only [cond_false,Bool.not_eq_true'] at h
     rw [List.any_eq_false] at h
     exact ⟨rfl,h5,hst rfl,fun x hx=>by simpa using h x hx⟩
   ·obtain ⟨v1,w1,w2,w3⟩:=c161 (k:=k+14) d.body (by have:=hz.1;omega) hz.1
    obtain ⟨v2,u1,u2,u3⟩:=c155 (k:=k+13) d.body (by have:=hz.1;omega) hz.1
    have hz1:=hz.1
    obtain ⟨g1,g2⟩:=hkey k hk v1 v2 w2 u2 (by omega) (by omega)
    have h:=hi (k+7) (by omega)
    have h':=hdk (k+3) (by omega)
    rw [F134.run,F129.run,h.1,h.2,bB,bB,ite'_nt,ite'_nt,h'.1,h'.2,bB,bB,ite'_nt,ite'_nt,zl,ite'_f (by simp [h5]),ite'_f (by simp [h5]),w1,u1]
    simp only [zj,zt,zbI,zh]
    rw [g1,g2]
    cases st<;>cases d.body.any (zaZ fs b)<;>exact ⟨rfl,rfl⟩
  ·refine ⟨false,fun h=>(by cases h),fun k hk=>?_⟩
   have h:=hi (k+7) (by omega)
   have h':=hdk (k+3) (by omega)
   rw [F134.run,F129.run,h.1,h.2,bB,bB,ite'_nt,ite'_nt,h'.1,h'.2,bB,bB,ite'_nt,ite'_nt,zl,ite'_t (by simp;omega),ite'_t (by simp;omega)]
   exact ⟨rfl,rfl⟩
end Go.Proofs.YthicohakeljdcaaGreat.Q
namespace Go.Proofs.YthicohakeljdcaaGreat.Q
open Go Ovi
variable {k:Nat}
structure InstY (a:Ovi.Rows) (fs:List Atom) (ib:Bool):Prop where
 hal:a.length≤1048576
 ok:Inst a fs ib
 f30:ib=true→fs.length≤30∧∀ x∈fs,(0≤x.1∧x.1 < (a.length:Int))∧(x.2.length:Int)=ar a x.1
 fx:∀ x∈fs,x.2.length≤1048576
 fl:fs.length≤1048576
theorem InstY.qok {a:Ovi.Rows} {fs xs:List Atom} {ib:Bool} (h:InstY a fs ib) (hs:zF xs+xs.length≤1048576) (h1:1≤xs.length) (h3:xs.length≤3) (hv:zco a xs (fun _=>true)) (hx:∀ x∈xs,(0≤x.1∧x.1 < (a.length:Int))∧(x.2.length:Int)=ar a x.1∧okT x.2):Qok a fs xs (fun _=>true) ib where
 ha:=h.hal
 hs:=hs
 hv:=hv
 h1:=h1
 h3:=h3
 all:=fun _ _=>rfl
 inst:=h.ok
 mok:=fun hb=>by
  obtain ⟨g1,g2⟩:=h.f30 hb
  refine ⟨g1,h3,fun x hxm=>⟨(hx x hxm).2.2,by have:=zaa hxm;omega⟩,fun x hxm f hf hxf=>?_⟩
  have p1:=(hx x hxm).2.1
  have p2:=(g2 f hf).2
  rw [← hxf] at p2
  omega
theorem zoY {a:Ovi.Rows} {fs xs:List Atom} (hq:Qok a fs xs (fun _=>true) true) (b:List Int) (hb:b.length=5):∃ e,∀ k,2000000≤k→C (k+18) 239 [ia a fs,.d (.list 2 (A1 xs)),.d (.list 1 (I1 b))]=bo e∧C (k+18) 184 [ia a fs,.d (.list 2 (A1 xs)),.d (.list 1 (I1 b))]=bo e:=by
 refine ⟨decide ((mats fs xs b).length > 0),fun k hk=>?_⟩
 have h3:=hq.h3
 have hm:=hq.mok rfl
 have e94:C (k+17) 192 [.d (.list 1 (I1 b))]=some [(false,[.row 3 1 (I1 b)])]:=by
  have:C (k+17) 192 [.d (.list 1 (I1 b))]=zbv 3 [.d (.list 1 (I1 b))]:=by kernel_rfl
  rw [this]
  simp only [zbv,zbe]
  rw [show Nat.ble b.length 1099511627776=true from Nat.ble_eq_true_of_le (by omega)]
  rfl
 have e155:C (k+17) 231 [.d (.list 2 (A1 fs)),.d (.list 2 (A1 xs)),.d (.list 1 (I1 b))]=some [(false,[.row 39 1 (LL (mats fs xs b))])]:=by
  have:=c231 (fs:=fs) (k:=k+14 - xs.length) (by omega) xs hm b hb
  rw [show k+14 - xs.length+xs.length+3=k+17 by omega] at this
  exact this
 have e112:C (k+17) 177 [.agg [.d (.list 3 a),.d (.list 2 (A1 fs))],.d (.list 2 (A1 xs)),.d (.int .i64 0),.d (.list 1 (I1 b))]=some [(false,[.row 39 1 (LL (mats fs xs b))])]:=by
  have:=c177 (a:=a) hm (k:=k+14 - xs.length) (by omega) xs.length 0 (by omega) b hb
  rw [show k+14 - xs.length+xs.length+3=k+17 by omega] at this
  exact this
 have e154:=c230 (k:=k+2) hq (by omega)
 have e111:=c176 (k:=k+1) hq (by omega)
 have hlen:decide ((((mats fs xs b).length:Nat):Int) > 0)=decide ((mats fs xs b).length > 0):=by
  rw [Bool.eq_iff_iff];simp only [decide_eq_true_eq];omega
 unfold ia
 constructor
 ·rw [F239.run,e154,bB,ite'_t rfl,zl,ite'_t (by simp [hb]),e94]
  simp only [zj,zt,zh]
  rw [e155]
  simp only [zj,zt,zh]
  rw [zA,hlen];rfl
 ·rw [F184.run,e111,bB,ite'_t rfl,zl,ite'_t (by simp [hb]),e112]
  simp only [zj,zt,zh]
  rw [zA,hlen];rfl
theorem actv {a:Ovi.Rows} {fs:List Atom} {ib:Bool} {d:Dep} (hi:InstY a fs ib) (hd:DepY a d) (hz:Dsz d) (b:List Int) (hI:∀ v∈b,inI v) (hb:b.length≤1048576) :
  ∃ vb,(vb=true→ib=true∧b.length=5∧(∀ i v,b[i]? = some v→zbO d.body i v=false)∧(∀ x∈d.body,zaZ fs b x=false)∧(d.egd=true→b.getD d.l.toNat 0≠b.getD d.r.toNat 0)) ∧
   ∀ k,2000000≤k→C (k+20) 190 [ia a fs,da d,.d (.list 1 (I1 b))]=bo vb∧C (k+20) 117 [ia a fs,da d,.d (.list 1 (I1 b))]=bo vb:=by
 obtain ⟨tb,htb,ht⟩:=trig hi.ok hd hz b hI hb hi.fx hi.fl
 have hD:=hd.1
 cases tb with
 | false =>
  refine ⟨false,fun h=>(by cases h),fun k hk=>?_⟩
  have h:=ht (k+3) (by omega)
  unfold ia da at *
  rw [F190.run,F117.run,h.1,h.2,bB,bB,ite'_nf,ite'_nf]
  exact ⟨rfl,rfl⟩
 | true =>
  obtain ⟨g1,g2,g3,g4⟩:=htb rfl
  subst g1
  cases he:d.egd with
  | true =>
   obtain ⟨_,hl,hr⟩:=hD.e he
   obtain ⟨l0,l4⟩:=zis hD.bv hl
   obtain ⟨r0,r4⟩:=zis hD.bv hr
   obtain ⟨p,hp⟩:∃ p:Nat,d.l=(p:Int):=⟨d.l.toNat,by omega⟩
   obtain ⟨q,hq⟩:∃ q:Nat,d.r=(q:Int):=⟨d.r.toNat,by omega⟩
   have hp5:p < b.length:=by omega
   have hq5:q < b.length:=by omega
   have hbp:b[p]? = some (b.getD p 0):=by rw [List.getD_eq_getElem?_getD,List.getElem?_eq_getElem hp5];rfl
   have hbq:b[q]? = some (b.getD q 0):=by rw [List.getD_eq_getElem?_getD,List.getElem?_eq_getElem hq5];rfl
   refine ⟨b.getD p 0 != b.getD q 0,fun h=>⟨rfl,g2,g3,g4,fun _=>?_⟩,fun k hk=>?_⟩
   ·rw [hp,hq,Int.toNat_natCast,Int.toNat_natCast]
    simpa using h
   ·have h:=ht (k+3) (by omega)
    unfold ia da at *
    rw [he,hp,hq] at h ⊢
    rw [F190.run,F117.run,h.1,h.2,bB,bB,ite'_nt,ite'_nt,ite'_t rfl,ite'_t rfl,zl,ite'_t (zn hp5),I1_c hbp,ze,ite'_t (zn hq5),I1_c hbq,ze]
    exact ⟨rfl,rfl⟩
  | false =>
   obtain ⟨q1,q2⟩:=hD.tV he
   obtain ⟨q3,q4⟩:=hD.t he
   have hq:=hi.qok hz.2 q1 (by omega) q2 q4
   obtain ⟨e,hee⟩:=zoY hq b g2
   refine ⟨!e,fun h=>⟨rfl,g2,g3,g4,fun h=>by cases h⟩,fun k hk=>?_⟩
   have h:=ht (k+3) (by omega)
   have h':=hee (k+1) (by omega)
   unfold ia da at *
   rw [he] at h ⊢
   rw [F190.run,F117.run,h.1,h.2,bB,bB,ite'_nt,ite'_nt,ite'_f rfl,ite'_f rfl,h'.1,h'.2,bB]
   exact ⟨rfl,rfl⟩
end Go.Proofs.YthicohakeljdcaaGreat.Q
namespace Go.Proofs.YthicohakeljdcaaGreat.Q
open Go Ovi
variable {k:Nat}
theorem c69 (a:Ovi.Rows) (xs:List Atom) (hI:∀ x∈xs,∀ z∈x.2,inI z) (hk:2000000≤k) (hs:zF xs+xs.length≤1048576):C (k+4) 69 [.agg [.d (.list 3 a),.d (.list 2 (A1 xs))]]=some [(false,[.d (.list 1 (I1 (zag (vals xs))))])]:=by
 have hmax:(1048576:Nat)≤maxLen:=by decide
 rw [F69.run]
 have inner:∀ (ls:List Int) (i:Nat),ls.length≤1048576→i < xs.length→∀ (m j n k3:Nat) (acc:List Int),j+m=ls.length→m < n→SS acc→acc.length+m≤1048576 → 
   ∃ acc',F69.L7 (k+3) (C (k+3)) k3 n (I1 acc) (i:Int) (I1 ls) (j:Int) a (A1 xs)=F69.L3 (k+3) (C (k+3)) k3 (I1 acc') ((i+1:Nat):Int) a (A1 xs)∧SS acc'∧acc'.length≤acc.length+m∧∀ z,z∈acc'↔z∈acc∨z∈ls.drop j:=by
  intro ls i hls hi m
  induction m with
  | zero =>
   intro j n k3 acc hm hn hS hl
   obtain ⟨n,rfl⟩:∃ j,n=j+1:=⟨n - 1,by omega⟩
   refine ⟨acc,?_,hS,by omega,fun z=>by rw [List.drop_eq_nil_of_le (by omega)];simp⟩
   rw [F69.L7.succ,zl,ite'_f (lt_f (by omega)),zy hi (m:=xs.length) (by omega)]
  | succ m ih =>
   intro j n k3 acc hm hn hS hl
   obtain ⟨n,rfl⟩:∃ j,n=j+1:=⟨n - 1,by omega⟩
   have hj:j < ls.length:=by omega
   have hz:=List.getElem?_eq_getElem hj
   obtain ⟨r',ws,e1,e2,e3,e4,e5⟩:=zlf (k:=k+2) acc ls[j] hS (by omega) (by omega)
   rw [F69.L7.succ,zl,ite'_t (lt_t hj),ite'_t (zn hj)]
   simp only [Int.toNat_natCast,zG (I1_get' hz),List.getElem?_cons_zero,Option.bind_some,zx,ze]
   rw [e1]
   simp only [zj]
   rw [e2,zh,zy hj (m:=ls.length) (by omega)]
   obtain ⟨acc',g1,g2,g3,g4⟩:=ih (j+1) n k3 ws (by omega) (by omega) e5 (by omega)
   refine ⟨acc',g1,g2,by omega,fun z=>?_⟩
   rw [g4 z,e3 z,List.drop_eq_getElem_cons hj,List.mem_cons,or_assoc]
 have outer:∀ (m i n:Nat) (acc:List Int),i+m=xs.length→m < n→SS acc→acc.length≤zF (xs.take i)→(∀ z,z∈acc↔z∈zag (vals (xs.take i))) →
   F69.L3 (k+3) (C (k+3)) n (I1 acc) (i:Int) a (A1 xs)=some [(false,[.d (.list 1 (I1 (zag (vals xs))))])]:=by
  intro m
  induction m with
  | zero =>
   intro i n acc hm hn hS ha hmem
   obtain ⟨n,rfl⟩:∃ j,n=j+1:=⟨n - 1,by omega⟩
   obtain rfl:i=xs.length:=by omega
   rw [List.take_length] at hmem
   rw [F69.L3.succ,zo,ite'_f (lt_f (by omega)),zh8 hS (zkd _) hmem]
  | succ m ih =>
   intro i n acc hm hn hS ha hmem
   obtain ⟨n,rfl⟩:∃ j,n=j+1:=⟨n - 1,by omega⟩
   have hi:i < xs.length:=by omega
   have hx:=List.getElem?_eq_getElem hi
   have hxm:=List.mem_of_getElem? hx
   have hta:=zbp hx
   have htl:=zbq xs (i+1)
   have hnl:=zi0 (xs[i]).2
   rw [F69.L3.succ,zo,ite'_t (lt_t hi),ite'_t (zn hi)]
   simp only [Int.toNat_natCast,zG (zaF hx),zZ (zaF hx),List.getElem?_cons_zero,List.getElem?_cons_succ,Option.bind_some,zx,zL,ze,zh]
   rw [c145 (k:=k) (xs[i]).1 (xs[i]).2 (hI _ hxm) (by omega) (by omega)]
   simp only [zj,zbI,zh]
   obtain ⟨acc',g1,g2,g3,g4⟩:=inner (zag (xs[i]).2) i (by omega) hi (zag (xs[i]).2).length 0 (k+3) n acc (by omega) (by omega) hS (by omega)
   rw [show ((0:Nat):Int)=0 from rfl] at g1
   rw [g1]
   refine ih (i+1) n acc' (by omega) (by omega) g2 (by omega) (fun z=>?_)
   rw [g4 z,List.drop_zero,hmem z,zck,zck,zck,List.take_succ_eq_append_getElem hi]
   unfold vals
   rw [List.flatMap_append]
   simp only [List.mem_append,List.flatMap_cons,List.flatMap_nil,List.append_nil]
   constructor
   ·rintro (⟨v,h1,h2⟩ | ⟨v,h1,h2⟩)
    ·exact ⟨v,.inl h1,h2⟩
    ·exact ⟨v,.inr h1,h2⟩
   ·rintro ⟨v,h1 | h1,h2⟩
    ·exact .inl ⟨v,h1,h2⟩
    ·exact .inr ⟨v,h1,h2⟩
 exact outer xs.length 0 (k+3) [] (by omega) (by omega) (by simp [SS]) (by simp) (fun z=>by simp [zck,vals])
end Go.Proofs.YthicohakeljdcaaGreat.Q
namespace Go.Proofs.YthicohakeljdcaaGreat.Q
open Go Ovi
variable {k:Nat}
theorem zoL (a b:List Int):I1 a++I1 b=I1 (a++b):=by simp [I1]
theorem c151 (a:Ovi.Rows) (xs:List Atom) (hI:∀ x∈xs,∀ z∈x.2,inI z) (hk:2000000≤k) (hs:zF xs+xs.length≤1048576):C (k+5) 151 [.agg [.d (.list 3 a),.d (.list 2 (A1 xs))]]=some [(false,[.row 3 1 (I1 (zag (vals xs)))])]:=by
 have hmax:(1048576:Nat)≤maxLen:=by decide
 have hvl:=zhi xs
 rw [F151.run,zo]
 have main:∀ (m i n:Nat),i+m=xs.length→m < n→F151.L3 (k+4) (C (k+4)) n (A1 xs) (xs.length:Int) (i:Int) (I1 (vals (xs.take i)))=some [(false,[.row 3 1 (I1 (zag (vals xs)))])]:=by
  intro m
  induction m with
  | zero =>
   intro i n hm hn
   obtain ⟨n,rfl⟩:∃ j,n=j+1:=⟨n - 1,by omega⟩
   obtain rfl:i=xs.length:=by omega
   rw [F151.L3.succ,ite'_f (lt_f (by omega)),List.take_length,c212 (k:=k+1) (vals xs) (zpu hI) (by omega) (by omega)]
   rfl
  | succ m ih =>
   intro i n hm hn
   obtain ⟨n,rfl⟩:∃ j,n=j+1:=⟨n - 1,by omega⟩
   have hi:i < xs.length:=by omega
   have hg:=List.getElem?_eq_getElem hi
   have:=ih (i+1) n (by omega) (by omega)
   have hv:vals (xs.take (i+1))=vals (xs.take i)++(xs[i]).2:=by
    unfold vals
    rw [List.take_succ_eq_append_getElem hi,List.flatMap_append,List.flatMap_cons,List.flatMap_nil,List.append_nil]
   rw [hv] at this
   have h1:=zhi (xs.take i)
   have h2:=zbp hg
   have h3:=zbq xs (i+1)
   rw [F151.L3.succ,ite'_t (lt_t hi),zo,ite'_t (zn hi),zaT hg,ze,zaU hg,zh,zl,zl,ite'_t (zS (by omega)),zy hi (m:=xs.length) (by omega),zoL]
   exact this
 exact main xs.length 0 (k+4) (by omega) (by omega)
def nx (fs:List Atom):Int:=if zag (vals fs)=[] then 0 else (zag (vals fs)).getD ((zag (vals fs)).length - 1) 0+1
theorem zm5 {zs:List Int} {n:Int} (h:n∈zag zs):0≤n∧n≤39:=by
 obtain ⟨v,_,hv,rfl⟩:=(zck _ _).1 h
 have:=zgh hv
 omega
theorem znx (fs:List Atom):0≤nx fs∧nx fs≤40:=by
 unfold nx
 by_cases h:zag (vals fs)=[]
 ·rw [if_pos h];omega
 ·rw [if_neg h]
  have hl:0 < (zag (vals fs)).length:=List.length_pos_iff.2 h
  have hm:(zag (vals fs)).getD ((zag (vals fs)).length - 1) 0∈zag (vals fs):=by
   rw [List.getD_eq_getElem?_getD,List.getElem?_eq_getElem (by omega)]
   exact List.getElem_mem _
  have:=zm5 hm
  omega
theorem zkc (a:Ovi.Rows) (xs:List Atom) (hI:∀ x∈xs,∀ z∈x.2,inI z) (hk:2000000≤k) (hs:zF xs+xs.length≤1048576):C (k+6) 193 [ia a xs]=io (nx xs)∧C (k+6) 186 [ia a xs]=io (nx xs):=by
 have hl:=zi0 (vals xs)
 have hvl:=zhi xs
 have h1:=c151 a xs hI hk hs
 have h2:=c69 (k:=k+1) a xs hI (by omega) hs
 have h40:=znx xs
 have key:∀ L:List Int,L=zag (vals xs)→ite' (((I1 L).length:Int)==0) (io 0) (ite' (inR (IntKind.i64.wrap (((I1 L).length:Int) - 1)) (I1 L).length) (zf (zm .i64 (I1 L) (IntKind.i64.wrap (((I1 L).length:Int) - 1)).toNat 0) fun n6=>io (IntKind.i64.wrap (n6+1))) none)=io (nx xs):=by
  intro L hL
  rw [zl]
  unfold nx at h40 ⊢
  rw [← hL] at h40 ⊢
  by_cases h:L=[]
  ·rw [if_pos h,ite'_t (by simp [h])]
  ·have hp:0 < L.length:=List.length_pos_iff.2 h
   rw [← hL] at hl
   have hw:IntKind.i64.wrap ((L.length:Int) - 1)=((L.length - 1:Nat):Int):=by rw [zad (by omega) (by omega)];omega
   have hg:L[L.length - 1]? = some (L.getD (L.length - 1) 0):=by rw [List.getD_eq_getElem?_getD,List.getElem?_eq_getElem (show L.length - 1 < L.length by omega)];rfl
   rw [if_neg h] at h40 ⊢
   rw [ite'_f (by simp [h]),hw,ite'_t (zn (show L.length - 1 < L.length by omega)),I1_c hg,ze,zad (by omega) (by omega)]
 unfold ia
 constructor
 ·rw [F193.run,h1]
  simp only [zj,zt,zh]
  exact key _ rfl
 ·rw [F186.run,h2]
  simp only [zj,zbI,zh]
  exact key _ rfl
end Go.Proofs.YthicohakeljdcaaGreat.Q
namespace Go.Proofs.YthicohakeljdcaaGreat.Q
open Go Ovi
variable {k:Nat}
theorem znn (xs:List Atom) (hk:zF xs+xs.length < k) (hs:zF xs+xs.length≤1048576):∃ vs,C (k+1) 161 [.d (.list 2 (A1 xs))]=some [(false,[.row 3 1 (I1 vs)])]∧(∀ z,z∈vs↔zY xs z)∧vs.length≤zF xs∧SS vs:=by
 rw [F161.run,zo]
 have hmax:(1048576:Nat)≤maxLen:=by decide
 have inner:∀ (i:Nat) (x:Atom),xs[i]? = some x→∀ (m j n k3:Nat) (acc:List Int),j+m=x.2.length→m < n→acc.length≤zF (xs.take i)+j→(∀ z,z∈acc↔zY (xs.take i) z∨(0≤z∧z∈x.2.take j)) →
   ∃ acc',F161.L6 k (C k) k3 n (A1 xs) (xs.length:Int) (i:Int) (I1 x.2) (x.2.length:Int) (j:Int) (I1 acc)=F161.L3 k (C k) k3 (A1 xs) (xs.length:Int) ((i+1:Nat):Int) (I1 acc')∧acc'.length≤zF (xs.take (i+1))∧∀ z,z∈acc'↔zY (xs.take (i+1)) z:=by
  intro i x hx m
  have hi:=(List.getElem?_eq_some_iff.1 hx).1
  have hta:=zbp hx
  have htl:=zbq xs (i+1)
  induction m with
  | zero =>
   intro j n k3 acc hm hn ha hmem
   obtain ⟨n,rfl⟩:∃ j,n=j+1:=⟨n - 1,by omega⟩
   obtain rfl:j=x.2.length:=by omega
   refine ⟨acc,?_,by omega,fun z=>?_⟩
   ·rw [F161.L6.succ,ite'_f (lt_f (by omega)),zy hi (m:=xs.length) (by omega)]
   ·rw [hmem z,zc5 hx,List.take_length]
  | succ m ih =>
   intro j n k3 acc hm hn ha hmem
   obtain ⟨n,rfl⟩:∃ j,n=j+1:=⟨n - 1,by omega⟩
   have hj:j < x.2.length:=by omega
   have hz:=List.getElem?_eq_getElem hj
   rw [F161.L6.succ,ite'_t (lt_t hj),zl,ite'_t (zn hj)]
   simp only [Int.toNat_natCast,zG (I1_get' hz),List.getElem?_cons_zero,Option.bind_some,zx,ze]
   rw [zy hj (m:=x.2.length) (by omega)]
   have htk:∀ z,z∈x.2.take (j+1)↔z∈x.2.take j∨z=x.2[j]:=by
    intro z
    rw [List.take_succ_eq_append_getElem hj]
    simp only [List.mem_append,List.mem_singleton]
   by_cases h0:0≤x.2[j]
   ·rw [ite'_t (by simpa using h0),ite'_t (zS (by simp [zl];omega))]
    have e:I1 acc++[[.int .i64 x.2[j]]]=I1 (acc++[x.2[j]]):=by simp [I1]
    rw [e]
    refine ih (j+1) n k3 _ (by omega) (by omega) (by simp;omega) (fun z=>?_)
    rw [List.mem_append,List.mem_singleton,hmem z,htk z]
    constructor
    ·rintro ((h | h) | h)
     ·exact .inl h
     ·exact .inr ⟨h.1,.inl h.2⟩
     ·exact .inr ⟨h▸h0,.inr h⟩
    ·rintro (h | ⟨h1,h | h⟩)
     ·exact .inl (.inl h)
     ·exact .inl (.inr ⟨h1,h⟩)
     ·exact .inr h
   ·rw [ite'_f (by simpa using h0)]
    refine ih (j+1) n k3 _ (by omega) (by omega) (by omega) (fun z=>?_)
    rw [hmem z,htk z]
    constructor
    ·rintro (h | h)
     ·exact .inl h
     ·exact .inr ⟨h.1,.inl h.2⟩
    ·rintro (h | ⟨h1,h | h⟩)
     ·exact .inl h
     ·exact .inr ⟨h1,h⟩
     ·exact absurd (h▸h1) h0
 have outer:∀ (m i n:Nat) (acc:List Int),i+m=xs.length→m < n→acc.length≤zF (xs.take i)→(∀ z,z∈acc↔zY (xs.take i) z) →
   ∃ vs,F161.L3 k (C k) n (A1 xs) (xs.length:Int) (i:Int) (I1 acc)=some [(false,[.row 3 1 (I1 vs)])]∧(∀ z,z∈vs↔zY xs z)∧vs.length≤zF xs∧SS vs:=by
  intro m
  induction m with
  | zero =>
   intro i n acc hm hn ha hmem
   obtain ⟨n,rfl⟩:∃ j,n=j+1:=⟨n - 1,by omega⟩
   obtain rfl:i=xs.length:=by omega
   rw [List.take_length] at ha hmem
   obtain ⟨k,rfl⟩:∃ j,k=j+1:=⟨k - 1,by omega⟩
   have e1:C (k+1) 215 [.var 0 0,.d (.int .i64 3),.d (.list 1 (I1 acc))]=some [(false,[.row 3 1 (I1 (zN acc))])]:=by
    show zcA _=_
    unfold zcA zbH
    simp only [zbe]
    rw [show Nat.ble acc.length 1099511627776=true from Nat.ble_eq_true_of_le (by omega)]
    rfl
   have hsl:(zN acc).length=acc.length:=by simp [zN]
   have e2:C (k+1) 216 [.var 0 0,.d (.int .i64 3),.d (.list 1 (I1 (zN acc)))]=some [(false,[.row 3 1 (I1 (Lib.compact (zN acc)))]),(true,[])]:=by
    show za8 _=_
    unfold za8 zbH
    simp only [zbe]
    rw [show Nat.ble (zN acc).length 1099511627776=true from Nat.ble_eq_true_of_le (by omega)]
    rfl
   refine ⟨Lib.compact (zN acc),?_,fun z=>?_,?_,ze9 _⟩
   ·rw [F161.L3.succ,ite'_f (lt_f (by omega)),e1]
    simp only [zj,zt,zh]
    rw [e2]
    rfl
   ·rw [zcI,zcu,hmem z]
   ·have:=zcG (zN acc)
    omega
  | succ m ih =>
   intro i n acc hm hn ha hmem
   obtain ⟨n,rfl⟩:∃ j,n=j+1:=⟨n - 1,by omega⟩
   have hi:i < xs.length:=by omega
   have hx:=List.getElem?_eq_getElem hi
   rw [F161.L3.succ,zo,ite'_t (lt_t hi),ite'_t (zn hi)]
   simp only [Int.toNat_natCast,zG (zaF hx),zZ (zaF hx),List.getElem?_cons_zero,List.getElem?_cons_succ,Option.bind_some,zx,zL,ze,zh]
   have hta:=zbp hx
   have htl:=zbq xs (i+1)
   rw [zl]
   obtain ⟨acc',e,h1,h2⟩:=inner i _ hx (xs[i]).2.length 0 k n acc (by omega) (by omega) (by omega) (fun z=>by simp [hmem z])
   rw [show ((0:Nat):Int)=0 from rfl] at e
   rw [e]
   exact ih (i+1) n acc' (by omega) (by omega) h1 h2
 have:=outer xs.length 0 k [] (by omega) (by omega) (by simp) (fun z=>by simp [zY])
 exact this
theorem zpE (xs:List Atom) (hk:zF xs+xs.length < k) (hs:zF xs+xs.length≤1048576):∃ vs,C (k+2) 155 [.d (.list 2 (A1 xs))]=some [(false,[.d (.list 1 (I1 vs))])]∧(∀ z,z∈vs↔zY xs z)∧vs.length≤zF xs∧SS vs:=by
 rw [F155.run]
 have hmax:(1048576:Nat)≤maxLen:=by decide
 have inner:∀ (i:Nat) (x:Atom),xs[i]? = some x→∀ (m j n k3:Nat) (acc:List Int),j+m=x.2.length→m < n→acc.length≤zF (xs.take i)+j→(∀ z,z∈acc↔zY (xs.take i) z∨(0≤z∧z∈x.2.take j))→SS acc →
   ∃ acc',F155.L6 (k+1) (C (k+1)) k3 n (A1 xs) (I1 acc) (i:Int) (j:Int)=F155.L3 (k+1) (C (k+1)) k3 (A1 xs) (I1 acc') ((i+1:Nat):Int)∧acc'.length≤zF (xs.take (i+1))∧(∀ z,z∈acc'↔zY (xs.take (i+1)) z)∧SS acc':=by
  intro i x hx m
  have hi:=(List.getElem?_eq_some_iff.1 hx).1
  have hta:=zbp hx
  have htl:=zbq xs (i+1)
  have hcell:zr 1 (A1 xs) ((i:Int)).toNat 1=some (I1 x.2):=by rw [Int.toNat_natCast,zZ (zaF hx)];rfl
  have hin:inR (i:Int) (A1 xs).length=true:=by rw [zo];exact zn hi
  induction m with
  | zero =>
   intro j n k3 acc hm hn ha hmem hSS
   obtain ⟨n,rfl⟩:∃ j,n=j+1:=⟨n - 1,by omega⟩
   obtain rfl:j=x.2.length:=by omega
   refine ⟨acc,?_,by omega,fun z=>?_,hSS⟩
   ·rw [F155.L6.succ,ite'_t hin,hcell,zh,zl,ite'_f (lt_f (by omega)),zy hi (m:=xs.length) (by omega)]
   ·rw [hmem z,zc5 hx,List.take_length]
  | succ m ih =>
   intro j n k3 acc hm hn ha hmem hSS
   obtain ⟨n,rfl⟩:∃ j,n=j+1:=⟨n - 1,by omega⟩
   have hj:j < x.2.length:=by omega
   have hz:=List.getElem?_eq_getElem hj
   have hcz:zm .i64 (I1 x.2) ((j:Int)).toNat 0=some x.2[j]:=by rw [Int.toNat_natCast,zG (I1_get' hz)];rfl
   have hinj:inR (j:Int) (I1 x.2).length=true:=by rw [zl];exact zn hj
   rw [F155.L6.succ,ite'_t hin,hcell,zh,ite'_t (b:=decide ((j:Int) < ((I1 x.2).length:Int))) (by rw [zl];exact lt_t hj),ite'_t hin]
   simp only [zh]
   rw [ite'_t hinj,hcz]
   simp only [ze]
   rw [zy hj (m:=x.2.length) (by omega)]
   have htk:∀ z,z∈x.2.take (j+1)↔z∈x.2.take j∨z=x.2[j]:=by
    intro z
    rw [List.take_succ_eq_append_getElem hj]
    simp only [List.mem_append,List.mem_singleton]
   by_cases h0:0≤x.2[j]
   ·obtain ⟨r,ws,e1,e2,e3,e4,e5⟩:=zlf (k:=k) acc x.2[j] hSS (by omega) (by omega)
    rw [ite'_t (by simpa using h0),ite'_t hin,ite'_t hinj,e1]
    simp only [zj]
    rw [e2,zh]
    refine ih (j+1) n k3 _ (by omega) (by omega) (by omega) (fun z=>?_) e5
    rw [e3 z,hmem z,htk z]
    constructor
    ·rintro ((h | h) | h)
     ·exact .inl h
     ·exact .inr ⟨h.1,.inl h.2⟩
     ·exact .inr ⟨h▸h0,.inr h⟩
    ·rintro (h | ⟨h1,h | h⟩)
     ·exact .inl (.inl h)
     ·exact .inl (.inr ⟨h1,h⟩)
     ·exact .inr h
   ·rw [ite'_f (by simpa using h0)]
    refine ih (j+1) n k3 _ (by omega) (by omega) (by omega) (fun z=>?_) hSS
    rw [hmem z,htk z]
    constructor
    ·rintro (h | h)
     ·exact .inl h
     ·exact .inr ⟨h.1,.inl h.2⟩
    ·rintro (h | ⟨h1,h | h⟩)
     ·exact .inl h
     ·exact .inr ⟨h1,h⟩
     ·exact absurd (h▸h1) h0
 have outer:∀ (m i n:Nat) (acc:List Int),i+m=xs.length→m < n→acc.length≤zF (xs.take i)→(∀ z,z∈acc↔zY (xs.take i) z)→SS acc →
   ∃ vs,F155.L3 (k+1) (C (k+1)) n (A1 xs) (I1 acc) (i:Int)=some [(false,[.d (.list 1 (I1 vs))])]∧(∀ z,z∈vs↔zY xs z)∧vs.length≤zF xs∧SS vs:=by
  intro m
  induction m with
  | zero =>
   intro i n acc hm hn ha hmem hSS
   obtain ⟨n,rfl⟩:∃ j,n=j+1:=⟨n - 1,by omega⟩
   obtain rfl:i=xs.length:=by omega
   rw [List.take_length] at ha hmem
   exact ⟨acc,by rw [F155.L3.succ,zo,ite'_f (lt_f (by omega))],hmem,ha,hSS⟩
  | succ m ih =>
   intro i n acc hm hn ha hmem hSS
   obtain ⟨n,rfl⟩:∃ j,n=j+1:=⟨n - 1,by omega⟩
   have hi:i < xs.length:=by omega
   have hx:=List.getElem?_eq_getElem hi
   have hta:=zbp hx
   have htl:=zbq xs (i+1)
   rw [F155.L3.succ,zo,ite'_t (lt_t hi)]
   obtain ⟨acc',e,h1,h2,h3⟩:=inner i _ hx (xs[i]).2.length 0 (k+1) n acc (by omega) (by omega) (by omega) (fun z=>by simp [hmem z]) hSS
   rw [show ((0:Nat):Int)=0 from rfl] at e
   rw [e]
   exact ih (i+1) n acc' (by omega) (by omega) h1 h2 h3
 have:=outer xs.length 0 (k+1) [] (by omega) (by omega) (by simp) (fun z=>by simp [zY]) (by simp [SS])
 exact this
theorem zoU (d:Dep) (hz:Dsz d):∃ ev:List Int,(∀ z,z∈ev↔zY d.head z∧¬ zY d.body z)∧ev.length≤zF d.head∧∀ k,3000000≤k→C (k+3) 194 [da d]=some [(false,[.row 3 1 (I1 ev)])]∧C (k+3) 185 [da d]=some [(false,[.row 3 1 (I1 ev)])]:=by
 have hmax:(1048576:Nat)≤maxLen:=by decide
 obtain ⟨hz1,hz2⟩:=hz
 obtain ⟨vh,_,h2,h3,h4⟩:=znn (k:=3000000) d.head (by omega) hz2
 have hb:∀ z,decide (z∈vh)=vB d.head z:=zcB h2
 refine ⟨vh.filter fun z=>!vB d.body z,fun z=>?_,?_,fun k hk=>?_⟩
 ·rw [List.mem_filter,h2]
  unfold vB
  simp
 ·have:=List.length_filter_le (fun z=>!vB d.body z) vh
  omega
 ·obtain ⟨v1,a1,a2,a3⟩:=c161 (k:=k) d.body (by omega) hz1
  obtain ⟨v2,b1,b2,b3,b4⟩:=znn (k:=k) d.head (by omega) hz2
  obtain ⟨u1,d1,d2,d3⟩:=c155 (k:=k) d.body (by omega) hz1
  obtain ⟨u2,e1,e2,e3,e4⟩:=zpE (k:=k) d.head (by omega) hz2
  obtain rfl:v2=vh:=zh8 b4 h4 fun z=>by rw [b2,h2]
  obtain rfl:u2=v2:=zh8 e4 b4 fun z=>by rw [e2,b2]
  have L138:∀ (m i n:Nat),i+m=u2.length→m < n→F240.L3 (k+1) (C (k+1)) n false (u2.length:Int) (i:Int) (I1 v1) (I1 ((u2.take i).filter fun z=>!vB d.body z)) (I1 u2)=some [(false,[.row 3 1 (I1 (u2.filter fun z=>!vB d.body z))])]:=by
   intro m
   induction m with
   | zero =>
    intro i n hm hn
    obtain ⟨n,rfl⟩:∃ j,n=j+1:=⟨n - 1,by omega⟩
    obtain rfl:i=u2.length:=by omega
    rw [F240.L3.succ,ite'_f (lt_f (by omega)),List.take_length]
   | succ m ih =>
    intro i n hm hn
    obtain ⟨n,rfl⟩:∃ j,n=j+1:=⟨n - 1,by omega⟩
    have hi:i < u2.length:=by omega
    have hg:=List.getElem?_eq_getElem hi
    have hft:=List.length_filter_le (fun z=>!vB d.body z) (u2.take i)
    rw [List.length_take] at hft
    have:=ih (i+1) n (by omega) (by omega)
    rw [List.take_succ_eq_append_getElem hi,List.filter_append] at this
    obtain ⟨j,rfl⟩:∃ j,k=j+1:=⟨k - 1,by omega⟩
    rw [F240.L3.succ,ite'_t (lt_t hi),zl,ite'_t (zn hi),I1_c hg,ze,c83 (k:=j) v1 u2[i] (by omega) (by omega),bB,zcB a2,zy hi (m:=u2.length) (by omega)]
    cases hv:vB d.body u2[i] with
    | true =>
     rw [show (true==false)=false from rfl,ite'_f rfl]
     simpa [hv] using this
    | false =>
     rw [show (false==false)=true from rfl,ite'_t rfl,zl,ite'_t (zS (by simp only [List.length_cons,List.length_nil];omega)),zbK]
     simpa [hv] using this
  have L74:∀ (m i n:Nat),i+m=u2.length→m < n→F185.L5 (k+2) (C (k+2)) n (I1 u1) (I1 u2) (i:Int) (I1 ((u2.take i).filter fun z=>!vB d.body z))=some [(false,[.row 3 1 (I1 (u2.filter fun z=>!vB d.body z))])]:=by
   intro m
   induction m with
   | zero =>
    intro i n hm hn
    obtain ⟨n,rfl⟩:∃ j,n=j+1:=⟨n - 1,by omega⟩
    obtain rfl:i=u2.length:=by omega
    rw [F185.L5.succ,zl,ite'_f (lt_f (by omega)),List.take_length]
   | succ m ih =>
    intro i n hm hn
    obtain ⟨n,rfl⟩:∃ j,n=j+1:=⟨n - 1,by omega⟩
    have hi:i < u2.length:=by omega
    have hg:=List.getElem?_eq_getElem hi
    have hft:=List.length_filter_le (fun z=>!vB d.body z) (u2.take i)
    rw [List.length_take] at hft
    have:=ih (i+1) n (by omega) (by omega)
    rw [List.take_succ_eq_append_getElem hi,List.filter_append] at this
    rw [F185.L5.succ,zl,ite'_t (lt_t hi),ite'_t (zn hi),I1_c hg,ze,c81 (k:=k+1) u1 u2[i] (by omega) (by omega),bB,zcB d2,zy hi (m:=u2.length) (by omega)]
    cases hv:vB d.body u2[i] with
    | true =>
     rw [ite'_nt]
     simpa [hv] using this
    | false =>
     rw [ite'_nf,ite'_t (zn hi),ze,zl,ite'_t (zS (by simp only [List.length_cons,List.length_nil];omega)),zbK]
     simpa [hv] using this
  unfold da
  constructor
  ·rw [F194.run,F240.run,a1,b1]
   simp only [zj,zt,zh]
   rw [zl,show F240.L3 (k+1) (C (k+1)) (k+1) false (u2.length:Int) 0 (I1 v1) [] (I1 u2)=_ from L138 u2.length 0 (k+1) (by omega) (by omega)]
   simp only [zj,zt,zh]
  ·rw [F185.run,d1]
   simp only [zj,zbI,zh]
   rw [e1]
   simp only [zj,zbI,zh]
   exact L74 u2.length 0 (k+2) (by omega) (by omega)
end Go.Proofs.YthicohakeljdcaaGreat.Q
namespace Go.Proofs.YthicohakeljdcaaGreat.Q
open Go Ovi
variable {k:Nat}
def s1 (n:Int):Ovi.Rows:=[[.int .i64 n]]
theorem ze2 (n:Int):zm .i64 (s1 n) 0 0=some n:=rfl
def zbr (n w:Int):Bool:=decide ((0:Int)≤n∧n≤39)&&okV w
theorem znm (n w:Int) (hw:inI w) (hk:100≤k):C (k+5) 148 [.agg [.d (.list 1 (s1 n)),.d (.list 1 (s1 w))]]=bo (zbr n w):=by
 obtain ⟨j,rfl⟩:∃ j,k=j+2:=⟨k - 2,by omega⟩
 have e0:F148.L4 (j+2+4) (C (j+2+4)) (j+2+3+1) 0 (s1 n) (s1 w)=bo (zbr n w):=by
  have h1:F148.L4 (j+2+4) (C (j+2+4)) (j+2+2+1) 1 (s1 n) (s1 w)=bo true:=by rw [F148.L4.succ];rfl
  rw [F148.L4.succ,show decide ((0:Int) < ((s1 n).length:Int))=true from rfl,ite'_t rfl,show inR (0:Int) (s1 n).length=true from rfl,ite'_t rfl,show ((0:Int)).toNat=0 from rfl,ze2,ze,c68,bB]
  unfold zbr
  cases decide ((0:Int)≤n∧n≤39) with
  | false=>rfl
  | true =>
   rw [ite'_nt,show decide ((0:Int) > 0)=false from rfl,ite'_f rfl,show inR (0:Int) (s1 w).length=true from rfl,ite'_t rfl,ze2,ze,c157 (k:=j+2+1) hw,bB]
   cases okV w with
   | false=>rfl
   | true=>rw [ite'_nt];exact h1
 rw [F148.run,show (((s1 n).length:Int) != ((s1 w).length:Int))=false from rfl,ite'_f rfl]
 exact e0
theorem znp (n w:Int) (hk:100≤k):C (k+5) 213 [.agg [.d (.list 1 (s1 n)),.d (.list 1 (s1 w))]]=bo (zbr n w):=by
 obtain ⟨j,rfl⟩:∃ j,k=j+2:=⟨k - 2,by omega⟩
 have e0:F213.L4 (j+2+4) (C (j+2+4)) (j+2+3+1) (s1 n) 1 0 (s1 n) (s1 w)=bo (zbr n w):=by
  have h1:F213.L4 (j+2+4) (C (j+2+4)) (j+2+2+1) (s1 n) 1 1 (s1 n) (s1 w)=bo true:=by rw [F213.L4.succ];rfl
  rw [F213.L4.succ,show decide ((0:Int) < 1)=true from rfl,ite'_t rfl,show inR (0:Int) (s1 n).length=true from rfl,ite'_t rfl,show ((0:Int)).toNat=0 from rfl,ze2,ze,c73,bB]
  unfold zbr
  cases decide ((0:Int)≤n∧n≤39) with
  | false=>rfl
  | true =>
   rw [ite'_nt,show decide ((0:Int) > 0)=false from rfl,ite'_f rfl,show inR (0:Int) (s1 w).length=true from rfl,ite'_t rfl,ze2,ze,c165 (k:=j+2+2) w,bB]
   cases okV w with
   | false=>rfl
   | true=>rw [ite'_nt];exact h1
 rw [F213.run,show (((s1 n).length:Int) != ((s1 w).length:Int))=false from rfl,ite'_f rfl]
 exact e0
end Go.Proofs.YthicohakeljdcaaGreat.Q
namespace Go.Proofs.YthicohakeljdcaaGreat.Q
open Go Ovi
variable {k:Nat}
def sv (n w v:Int):Int:=if v=neg n then w else v
theorem zpF (n w v:Int) (hn:zbr n w=true) (hw:inI w) (hk:100≤k):C (k+7) 211 [.agg [.d (.list 1 (s1 n)),.d (.list 1 (s1 w))],.d (.int .i64 v)]=io (sv n w v):=by
 have hn1:(0:Int)≤n∧n≤39:=by
  unfold zbr at hn
  rw [Bool.and_eq_true,decide_eq_true_eq] at hn
  exact hn.1
 have hneg:IntKind.i64.wrap (-1 - n)=neg n:=zad (by omega) (by omega)
 have h1:F211.L2 (k+6) (C (k+6)) (k+4+1) v 1 (s1 n) (s1 w)=io v:=by rw [F211.L2.succ];rfl
 have e0:F211.L2 (k+6) (C (k+6)) (k+5+1) v 0 (s1 n) (s1 w)=io (sv n w v):=by
  rw [F211.L2.succ,show decide ((0:Int) < ((s1 n).length:Int))=true from rfl,ite'_t rfl,znm (k:=k+1) n w hw (by omega),bB,hn,ite'_t rfl,show inR (0:Int) (s1 n).length=true from rfl,ite'_t rfl,show ((0:Int)).toNat=0 from rfl,ze2,ze,F70.run,hneg]
  simp only [zj,zw,ze]
  unfold sv
  by_cases h:v=neg n
  ·subst h
   rw [if_pos rfl,ite'_t (by simp),show inR (0:Int) (s1 w).length=true from rfl,ite'_t rfl,ze2,ze];rfl
  ·rw [if_neg h,ite'_f (by simpa using fun e=>h e.symm)];exact h1
 rw [F211.run]
 exact e0
theorem c85s (n q:Int) (hk:100≤k):C (k+1) 85 [.d (.list 1 (s1 n)),.d (.int .i64 q)]=io (if q=n then 0 else -1):=by
 obtain ⟨j,rfl⟩:∃ j,k=j+2:=⟨k - 2,by omega⟩
 have h1:F85.L2 (j+2) (C (j+2)) (j+1) (s1 n) q 1 1=io (-1):=by rw [F85.L2.succ];rfl
 have e0:F85.L2 (j+2) (C (j+2)) (j+1+1) (s1 n) q 1 0=io (if q=n then 0 else -1):=by
  rw [F85.L2.succ,show decide ((0:Int) < 1)=true from rfl,ite'_t rfl,show inR (0:Int) (s1 n).length=true from rfl,ite'_t rfl,show ((0:Int)).toNat=0 from rfl,ze2,ze]
  by_cases h:q=n
  ·rw [if_pos h,ite'_t (by simpa using h)];rfl
  ·rw [if_neg h,ite'_f (by simpa using h)];exact h1
 rw [F85.run]
 exact e0
theorem zpH (n w v:Int) (hn:zbr n w=true) (hv:inI v) (hk:100≤k):C (k+7) 252 [.agg [.d (.list 1 (s1 n)),.d (.list 1 (s1 w))],.d (.int .i64 v)]=io (sv n w v):=by
 have hn1:(0:Int)≤n∧n≤39:=by
  unfold zbr at hn
  rw [Bool.and_eq_true,decide_eq_true_eq] at hn
  exact hn.1
 rw [F252.run,c82 (k:=k+4) hv,nnB,c85s (k:=k+5) n _ (by omega),iB',znp (k:=k+1) n w (by omega),bB,hn]
 unfold sv
 cases hN:isN v with
 | false =>
  have:=zjr hN
  rw [if_neg (show ¬ v=neg n by unfold neg;omega)];rfl
 | true =>
  rw [ite'_nt,if_pos rfl]
  by_cases h:v=neg n
  ·have : -1 - v=n:=by unfold neg at h;omega
   rw [if_pos h,if_pos this];rfl
  ·have:¬ -1 - v=n:=fun e=>h (by unfold neg;omega)
   rw [if_neg h,if_neg this];rfl
end Go.Proofs.YthicohakeljdcaaGreat.Q
namespace Go.Proofs.YthicohakeljdcaaGreat.Q
open Go Ovi
variable {k:Nat}
def subF (n w:Int) (x:Atom):Atom:=(x.1,x.2.map (sv n w))
theorem zpC (n w:Int) (hn:zbr n w=true) (hw:inI w) (x:Atom) (hz:x.2.length≤1048576) (hk:2000000≤k):C (k+9) 149 [.agg [.d (.list 1 (s1 n)),.d (.list 1 (s1 w))],.agg [.d (.int .i64 x.1),.d (.list 1 (I1 x.2))]]=some [(true,[.d (.int .i64 x.1),.row 3 1 (I1 (subF n w x).2)])]:=by
 have hmax:(1048576:Nat)≤maxLen:=by decide
 have main:∀ (m i j:Nat),i+m=x.2.length→m < j→F149.L3 (k+8) (C (k+8)) j (i:Int) (s1 n) (s1 w) x.1 (I1 x.2) 0 [] x.1 (I1 ((x.2.take i).map (sv n w)))=some [(true,[.d (.int .i64 x.1),.row 3 1 (I1 (subF n w x).2)])]:=by
  intro m
  induction m with
  | zero =>
   intro i j hm hj
   obtain ⟨j,rfl⟩:∃ q,j=q+1:=⟨j - 1,by omega⟩
   obtain rfl:i=x.2.length:=by omega
   rw [F149.L3.succ,zl,ite'_f (lt_f (by omega)),List.take_length]
   rfl
  | succ m ih =>
   intro i j hm hj
   obtain ⟨j,rfl⟩:∃ q,j=q+1:=⟨j - 1,by omega⟩
   have hi:i < x.2.length:=by omega
   have hg:=List.getElem?_eq_getElem hi
   have:=ih (i+1) j (by omega) (by omega)
   rw [List.take_succ_eq_append_getElem hi,List.map_append,List.map_singleton] at this
   rw [F149.L3.succ,zl,ite'_t (lt_t hi),ite'_t (zn hi),I1_c hg,ze,zpF (k:=k+1) n w x.2[i] hn hw (by omega),iB',ite'_t (zS (by rw [zl,List.length_map,List.length_take];simp only [List.length_cons,List.length_nil];omega)),zy hi (m:=x.2.length) (by omega),zbK]
   exact this
 rw [F149.run]
 exact main x.2.length 0 (k+8) (by omega) (by omega)
theorem zpG (n w:Int) (hn:zbr n w=true) (x:Atom) (hI:∀ v∈x.2,inI v) (hz:x.2.length≤1048576) (hk:2000000≤k):C (k+9) 214 [.agg [.d (.list 1 (s1 n)),.d (.list 1 (s1 w))],.agg [.d (.int .i64 x.1),.d (.list 1 (I1 x.2))]]=some [(true,[.d (.int .i64 x.1),.row 3 1 (I1 (subF n w x).2)])]:=by
 have hmax:(1048576:Nat)≤maxLen:=by decide
 have main:∀ (m i j:Nat) (cur:List Int),i+m=x.2.length→m < j→cur=(x.2.take i).map (sv n w)++x.2.drop i→F214.L3 (k+8) (C (k+8)) j (I1 x.2) (x.2.length:Int) (i:Int) (s1 n) (s1 w) 0 [] x.1 (I1 cur)=some [(true,[.d (.int .i64 x.1),.row 3 1 (I1 (subF n w x).2)])]:=by
  intro m
  induction m with
  | zero =>
   intro i j cur hm hj hc
   obtain ⟨j,rfl⟩:∃ q,j=q+1:=⟨j - 1,by omega⟩
   obtain rfl:i=x.2.length:=by omega
   rw [List.take_length,List.drop_length,List.append_nil] at hc
   subst hc
   rw [F214.L3.succ,ite'_f (lt_f (by omega))]
   rfl
  | succ m ih =>
   intro i j cur hm hj hc
   obtain ⟨j,rfl⟩:∃ q,j=q+1:=⟨j - 1,by omega⟩
   have hi:i < x.2.length:=by omega
   have hg:=List.getElem?_eq_getElem hi
   have hcl:cur.length=x.2.length:=by rw [hc];simp;omega
   rw [F214.L3.succ,ite'_t (lt_t hi),zl,ite'_t (zn hi),I1_c hg,ze,zpH (k:=k+1) n w x.2[i] hn (hI _ (List.getElem_mem hi)) (by omega),iB',zl,ite'_t (zn (show i < cur.length by omega)),zy hi (m:=x.2.length) (by omega),Int.toNat_natCast,zcy _ (show i < cur.length by omega)]
   refine ih (i+1) j _ (by omega) (by omega) ?_
   rw [hc,List.take_succ_eq_append_getElem hi,List.map_append,List.map_singleton,List.drop_eq_getElem_cons hi,List.append_assoc,List.singleton_append]
   have hz0:i - ((x.2.take i).map (sv n w)).length=0:=by rw [List.length_map,List.length_take];omega
   rw [List.set_append_right _ _ (by rw [List.length_map,List.length_take];omega),hz0,List.set_cons_zero]
 rw [F214.run,c221 (k:=k+6) x hz]
 show F214.L3 (k+8) (C (k+8)) (k+8) (I1 x.2) ((I1 x.2).length:Int) 0 (s1 n) (s1 w) 0 [] x.1 (I1 x.2)=_
 rw [zl]
 exact main x.2.length 0 (k+8) x.2 (by omega) (by omega) (by simp)
end Go.Proofs.YthicohakeljdcaaGreat.Q
namespace Go.Proofs.YthicohakeljdcaaGreat.Q
open Go Ovi
variable {k:Nat}
theorem zlF {M:List Atom} {i:Nat} (z:Atom) (h:i < M.length):rowsSet (A1 M) i 0 [.int .i64 z.1,.list 1 (I1 z.2)]=A1 (M.set i z):=by
 have:(A1 M).getD i []=[.int .i64 (M[i]).1,.list 1 (I1 (M[i]).2)]:=by simp [A1,List.getD,h]
 unfold rowsSet
 rw [this]
 simp [A1,List.map_set]
def subI (n w:Int) (fs:List Atom):List Atom:=can (fs.map (subF n w))
theorem zib {n w:Int} {fs:List Atom} (hf:∀ x∈fs,x.2.length≤1048576):∀ z∈fs.map (subF n w),z.2.length≤1048576:=by
 intro z hz
 obtain ⟨x,hx,rfl⟩:=List.mem_map.1 hz
 have:=hf x hx
 simpa [subF] using this
theorem R54 {r:Res} {a b:Ovi.Rows} {f:Ovi.Rows→Ovi.Rows→Option Res} (h1:resL 3 1 true 2 r 0 0=some a) (h2:resL 2 1 true 2 r 0 1=some b):(za (some r) fun r20=>zc (resL 3 1 true 2 r20 0 0) fun l21=>zc (resL 2 1 true 2 r20 0 1) fun l22=>f l21 l22)=f a b:=by
 rw [zj,h1,zh,h2,zh]
theorem aF {r:Int} {vs:Ovi.Rows} {f:Int→Ovi.Rows→Option Res}:(za (some [(true,[.d (.int .i64 r),.row 3 1 vs])]) fun r16=>zf (resI .i64 1 true 2 r16 0 0) fun n17=>zc (resO 3 1 1 true 2 r16 0 1) fun l18=>f n17 l18)=f r vs:=rfl
theorem aI {a b:Ovi.Rows} {f:Ovi.Rows→Ovi.Rows→Option Res}:(za (some [(true,[.row 133 3 a,.frow 118 2 1 b])]) fun r16=>zc (resO 133 3 1 true 2 r16 0 0) fun l114=>zc (resF 118 2 1 1 true 2 r16 0 1) fun l18=>f l114 l18)=f a b:=rfl
theorem zpD {a:Ovi.Rows} {fs:List Atom} (n w:Int) (hn:zbr n w=true) (hi:Inst a fs true) (ha2:a.length≤1048576) (hf:∀ x∈fs,x.2.length≤1048576) (hI:∀ x∈fs,∀ v∈x.2,inI v) (hl:fs.length≤1048576) (hk:2000000≤k) :
  C (k+11) 152 [.agg [.d (.list 1 (s1 n)),.d (.list 1 (s1 w))],ia a fs]=some [(true,[.row 133 3 a,.frow 118 2 1 (A1 (subI n w fs))]),(false,[.d (.bool true)])]:=by
 have hmax:(1048576:Nat)≤maxLen:=by decide
 have main:∀ (m i j:Nat) (cur:List Atom),i+m=fs.length→m < j→cur=(fs.take i).map (subF n w)++fs.drop i→F152.L5 (k+10) (C (k+10)) j (A1 fs) (fs.length:Int) (i:Int) (s1 n) (s1 w) [] [] a (A1 cur)=some [(true,[.row 133 3 a,.frow 118 2 1 (A1 (subI n w fs))]),(false,[.d (.bool true)])]:=by
  intro m
  induction m with
  | zero =>
   intro i j cur hm hj hc
   obtain ⟨j,rfl⟩:∃ q,j=q+1:=⟨j - 1,by omega⟩
   obtain rfl:i=fs.length:=by omega
   rw [List.take_length,List.drop_length,List.append_nil] at hc
   subst hc
   rw [F152.L5.succ,ite'_f (lt_f (by omega)),c99 (k:=k+6) (fs.map (subF n w)) (zib hf) (by rw [List.length_map];omega) (by omega)]
   rfl
  | succ m ih =>
   intro i j cur hm hj hc
   obtain ⟨j,rfl⟩:∃ q,j=q+1:=⟨j - 1,by omega⟩
   have hi:i < fs.length:=by omega
   have hg:=List.getElem?_eq_getElem hi
   have hgm:=List.getElem_mem hi
   have hcl:cur.length=fs.length:=by rw [hc];simp;omega
   rw [F152.L5.succ,ite'_t (lt_t hi),zo,ite'_t (zn hi),zaT hg,ze,zaU hg,zh,zpG (k:=k+1) n w hn fs[i] (hI _ hgm) (hf _ hgm) (by omega),aF,zo,ite'_t (zn (show i < cur.length by omega)),zy hi (m:=fs.length) (by omega),Int.toNat_natCast]
   have e:=zlF (M:=cur) (i:=i) (subF n w fs[i]) (by omega)
   rw [show (fs[i]).1=(subF n w fs[i]).1 from rfl,e]
   refine ih (i+1) j _ (by omega) (by omega) ?_
   have hz0:i - ((fs.take i).map (subF n w)).length=0:=by rw [List.length_map,List.length_take];omega
   rw [hc,List.take_succ_eq_append_getElem hi,List.map_append,List.map_singleton,List.drop_eq_getElem_cons hi,List.append_assoc,List.singleton_append]
   rw [List.set_append_right _ _ (by rw [List.length_map,List.length_take];omega),hz0,List.set_cons_zero]
 have h50:=(hi (k+2) (by omega)).1
 unfold ia at *
 rw [F152.run,znp (k:=k+5) n w (by omega),bB,hn,ite'_nt,h50,bB,ite'_nt,c98 (k:=k+6) ha2 fs hf hl (by omega),aI,zo]
 exact main fs.length 0 (k+10) fs (by omega) (by omega) (by simp)
end Go.Proofs.YthicohakeljdcaaGreat.Q
namespace Go.Proofs.YthicohakeljdcaaGreat.Q
open Go Ovi
variable {k:Nat}
theorem c71s {a:Ovi.Rows} {fs:List Atom} (n w:Int) (hn:zbr n w=true) (hw:inI w) (hi:Inst a fs true) (ha2:a.length≤1048576) (hf:∀ x∈fs,x.2.length≤1048576) (hl:fs.length≤1000000) (hk:2000000≤k) :
  C (k+11) 71 [.agg [.d (.list 1 (s1 n)),.d (.list 1 (s1 w))],ia a fs]=some [(true,[.row 133 3 a,.frow 118 2 1 (A1 (subI n w fs))]),(false,[.d (.bool true)])]:=by
 have hmax:(1048576:Nat)≤maxLen:=by decide
 have hcl:(subI n w fs).length≤fs.length:=by
  have:=zkM (fs.map (subF n w))
  rw [List.length_map] at this
  exact this
 have main:∀ (m i j:Nat) (gs:List Atom),i+m=fs.length→m < j→SSA gs→(∀ z,z∈gs↔z∈(fs.take i).map (subF n w))→gs.length≤i→F71.L5 (k+10) (C (k+10)) j (i:Int) (s1 n) (s1 w) a (A1 fs) [] [] a (A1 gs)=some [(true,[.row 133 3 a,.frow 118 2 1 (A1 (subI n w fs))]),(false,[.d (.bool true)])]:=by
  intro m
  induction m with
  | zero =>
   intro i j gs hm hj hS hmem hgl
   obtain ⟨j,rfl⟩:∃ q,j=q+1:=⟨j - 1,by omega⟩
   obtain rfl:i=fs.length:=by omega
   have e:gs=subI n w fs:=by
    refine zkv hS (zd2 _) fun z=>?_
    rw [hmem z,List.take_length]
    exact (zbM _ _).symm
   subst e
   rw [F71.L5.succ,zo,ite'_f (lt_f (by omega)),c92 (k:=k+7) ha2 (subI n w fs) (fun z hz=>zib hf z ((zbM _ _).1 hz)) (by omega) (by omega),aI]
  | succ m ih =>
   intro i j gs hm hj hS hmem hgl
   obtain ⟨j,rfl⟩:∃ q,j=q+1:=⟨j - 1,by omega⟩
   have hi:i < fs.length:=by omega
   have hg:=List.getElem?_eq_getElem hi
   have hgm:=List.getElem_mem hi
   have hgx:∀ x∈gs,x.2.length≤1048576:=by
    intro z hz
    obtain ⟨x,hx',rfl⟩:=List.mem_map.1 ((hmem z).1 hz)
    have:=hf x (List.mem_of_mem_take hx')
    simpa [subF] using this
   obtain ⟨r,ws,e1,e2,e3,e4,e5,e6⟩:=c91 (k:=k+5) (a:=a) gs (subF n w fs[i]) hS hgx (by have:=hf _ hgm;simpa [subF] using this) (by omega) (by omega)
   rw [F71.L5.succ,zo,ite'_t (lt_t hi),ite'_t (zn hi),zaT hg,ze,zaU hg,zh,zpC (k:=k+1) n w hn hw fs[i] (hf _ hgm) (by omega),aF]
   rw [show (C (k+10) 91 [.agg [.d (.list 3 a),.d (.list 2 (A1 gs))],.agg [.d (.int .i64 (fs[i]).1),.d (.list 1 (I1 (subF n w fs[i]).2))]])=some r from e1,R54 e2 e3,zy hi (m:=fs.length) (by omega)]
   refine ih (i+1) j ws (by omega) (by omega) e4 (fun z=>?_) (by omega)
   rw [e5,hmem,List.take_succ_eq_append_getElem hi,List.map_append,List.mem_append,List.map_singleton,List.mem_singleton]
 have h37:=(hi (k+2) (by omega)).2
 unfold ia at *
 rw [F71.run,znm (k:=k+5) n w hw (by omega),bB,hn,ite'_nt,h37,bB,ite'_nt,ite'_t (zS (by omega))]
 exact main fs.length 0 (k+10) [] (by omega) (by omega) (by simp [SSA]) (by simp) (Nat.zero_le _)
end Go.Proofs.YthicohakeljdcaaGreat.Q
namespace Go.Proofs.YthicohakeljdcaaGreat.Q
open Go Ovi
variable {k:Nat}
structure Gd (a:Ovi.Rows) (fs:List Atom):Prop where
 fit:Fit Rl (.list 3 a)
 hal:a.length≤1048576
 hI:∀ x∈fs,∀ z∈x.2,inI z
 hs:zF fs+fs.length≤1048576
 hR:∀ x∈fs,inI x.1
structure Vl (a:Ovi.Rows) (fs:List Atom):Prop where
 ss:SSA fs
 l3:∀ x∈fs,x.2.length≤3
 n30:fs.length≤30
 rel:∀ x∈fs,0≤x.1∧x.1 < (a.length:Int)
 ar3:∀ r:Int,0≤r→r < (a.length:Int)→ar a r≤3
theorem zjd:∀ {l:List Atom},(∀ (i:Nat) x y,l[i]? = some x→l[i+1]? = some y→ltA x y=true)→SSA l
 | [],_=>by simp [SSA]
 | [x],_=>by simp [SSA]
 | x::y::l,h=>by
  have h1:=zjd (l:=y::l) (fun i a b ha hb=>h (i+1) a b ha hb)
  have h0:=h 0 x y rfl rfl
  refine List.pairwise_cons.2 ⟨fun z hz=>?_,h1⟩
  rcases List.mem_cons.1 hz with rfl | hz
  ·exact h0
  ·exact swoA.trans _ _ _ h0 ((List.pairwise_cons.1 h1).1 z hz)
theorem zje {fs:List Atom} (h:∀ x∈fs,x.2.length≤3):zF fs≤3 * fs.length:=by
 induction fs with
 | nil=>simp [zF]
 | cons x l ih =>
  have h1:=ih (fun y hy=>h y (List.mem_cons_of_mem _ hy))
  have h2:=h x List.mem_cons_self
  simp only [zF,List.map_cons,List.sum_cons,List.length_cons] at *
  omega
theorem Gd.inst {a:Ovi.Rows} {fs:List Atom} (h:Gd a fs):∃ ib,InstY a fs ib∧(ib=true→Vl a fs):=by
 have hs:=h.hs
 obtain ⟨ib,h1,h2⟩:=zmb h.fit fs h.hI (by omega) h.hal
 refine ⟨ib,⟨h.hal,h2,fun hb=>(h1 hb).1,fun x hx=>by have:=zaa hx;omega,by omega⟩,fun hb=>?_⟩
 obtain ⟨⟨g1,g2⟩,g3,g4,g5⟩:=h1 hb
 exact ⟨zjd fun i x y hx hy=>by unfold ltA;rw [← zjP,decide_eq_true_eq];exact g4 i x y hx hy,g3,g1,fun x hx=>(g2 x hx).1,g5⟩
theorem Gd.fx {a:Ovi.Rows} {fs:List Atom} (h:Gd a fs):∀ x∈fs,x.2.length≤1048576:=fun x hx=>by
 have:=zaa hx
 have:=h.hs
 omega
theorem Gd.of3 {a:Ovi.Rows} {fs gs:List Atom} (h:Gd a fs) (hR:∀ x∈gs,inI x.1) (hI:∀ x∈gs,∀ z∈x.2,inI z) (h3:∀ x∈gs,x.2.length≤3) (hn:gs.length≤30):Gd a gs :=
 ⟨h.fit,h.hal,hI,by have:=zje h3;omega,hR⟩
end Go.Proofs.YthicohakeljdcaaGreat.Q
namespace Go.Proofs.YthicohakeljdcaaGreat.Q
open Go Ovi
variable {k:Nat}
def hd (b:List Int) (x:Atom):Atom:=match insG b x.2 with
 | some vs=>(x.1,vs)
 | none=>(0,[])
def setE (b:List Int):List Int→Int→List Int
 | [],_=>b
 | z::zs,n=>setE (b.set z.toNat (neg n)) zs (n+1)
theorem zg6 {b:List Int}:∀ {ts vs:List Int},insG b ts=some vs→(∀ t∈ts,okV (val b t)=true)∧vs=ts.map (val b)
 | [],vs,h=>by cases h;exact ⟨by simp,rfl⟩
 | t::ts,vs,h=>by
  rw [insG] at h
  by_cases hok:okV (val b t)=true
  ·rw [if_pos hok] at h
   obtain ⟨ws,hw,rfl⟩:=Option.map_eq_some_iff.1 h
   obtain ⟨h1,h2⟩:=zg6 hw
   refine ⟨fun t' ht=>?_,by rw [h2];rfl⟩
   rcases List.mem_cons.1 ht with rfl | ht
   ·exact hok
   ·exact h1 t' ht
  ·rw [if_neg hok] at h;cases h
theorem zpl {v:Int} (h:okV v=true):inI v:=by
 unfold okV at h
 rw [decide_eq_true_eq] at h
 unfold inI;omega
theorem zfH (b:List Int) (x:Atom):(hd b x).2.length≤x.2.length:=by
 unfold hd
 cases h:insG b x.2 with
 | none=>simp
 | some vs=>exact Nat.le_of_eq (zj2 h)
theorem zpO (b:List Int) (x:Atom):∀ v∈(hd b x).2,inI v:=by
 unfold hd
 cases h:insG b x.2 with
 | none=>simp
 | some vs =>
  obtain ⟨h1,h2⟩:=zg6 h
  intro v hv
  replace hv:v∈vs:=hv
  rw [h2] at hv
  obtain ⟨t,ht,rfl⟩:=List.mem_map.1 hv
  exact zpl (h1 t ht)
def tf (fs:List Atom) (d:Dep) (b ev:List Int):List Atom:=can (fs++d.head.map (hd (setE b ev (nx fs))))
def tg (fs:List Atom) (d:Dep) (b ev:List Int):List Atom × Int :=
 if nx fs+(ev.length:Int) > 40 then (fs,3) else if ((tf fs d b ev).length:Int) > 30 then (fs,3) else (tf fs d b ev,1)
def pr (a:Ovi.Rows) (fs:List Atom) (c:Int):Option Res:=some [(true,[.row 133 3 a,.frow 118 2 1 (A1 fs)]),(false,[.d (.int .i64 c)])]
theorem c98x {a:Ovi.Rows} {fs:List Atom} {f:Ovi.Rows→Ovi.Rows→Option Res}:(za (some [(true,[.row 133 3 a,.frow 118 2 1 (A1 fs)])]) fun r16=>zc (resO 133 3 1 true 2 r16 0 0) fun l22=>zc (resF 118 2 1 1 true 2 r16 0 1) fun l18=>f l22 l18)=f a (A1 fs):=rfl
def hr (r:Int) (o:Option (List Int)):Int:=match o with
 | some _=>r
 | none=>0
theorem znz {r:Int} {o:Option (List Int)} {f:Int→Ovi.Rows→Bool→Option Res}:(za (okO r [] o) fun r16=>zf (resI .i64 2 true 2 r16 0 0) fun n17=>zc (resO 3 1 2 true 2 r16 0 1) fun l18=>zi (resB 2 false 1 r16 1 0) fun b19=>f n17 l18 b19)=f (hr r o) (I1 (o.getD [])) o.isSome:=by
 cases o<;>rfl
theorem znt (b:List Int) (x:Atom):hd b x=(hr x.1 (insG b x.2),(insG b x.2).getD []):=by
 unfold hd
 cases insG b x.2<;>rfl
theorem l122 {a:Ovi.Rows} {fs:List Atom} (hg:Gd a fs) (hv:Vl a fs) (d:Dep) (hT:∀ x∈d.head,okT x.2) (hz:Dsz d) (hh:d.head.length≤2) (b ev:List Int) (hb:b.length=5) (he:∀ z∈ev,0≤z∧z≤4) (hel:ev.length≤1000000) (hn40:0≤nx fs∧nx fs≤40) (hk:2000000≤k) :
  F122.L8 (k+20) (C (k+20)) (k+20) (nx fs) (ev.length:Int) 0 a (A1 fs) [] [] (A1 d.body) (A1 d.head) d.egd d.l d.r (I1 b) (I1 ev)=pr a (tg fs d b ev).1 (tg fs d b ev).2:=by
 have hmax:(1048576:Nat)≤maxLen:=by decide
 have hs:=hg.hs
 have hn30:=hv.n30
 have hcp:C (k+20) 98 [.agg [.d (.list 3 a),.d (.list 2 (A1 fs))]]=some [(true,[.row 133 3 a,.frow 118 2 1 (A1 fs)])]:=c98 (k:=k+16) hg.hal fs hg.fx (by omega) (by omega)
 have key:∀ (b':List Int) (nxt:Int),b'.length=5→nxt=nx fs+(ev.length:Int)→b'=setE b ev (nx fs)→F122.L15 (k+20) (C (k+20)) (k+20) (I1 b') nxt (A1 d.head) (d.head.length:Int) 0 a (A1 fs) [] [] a (A1 fs)=pr a (tg fs d b ev).1 (tg fs d b ev).2:=by
  intro b' nxt hb' hnx hbe
  have main:∀ (m i n:Nat),i+m=d.head.length→m < n→F122.L15 (k+20) (C (k+20)) n (I1 b') nxt (A1 d.head) (d.head.length:Int) (i:Int) a (A1 fs) [] [] a (A1 (fs++(d.head.take i).map (hd b')))=pr a (tg fs d b ev).1 (tg fs d b ev).2:=by
   intro m
   induction m with
   | zero =>
    intro i n hm hn
    obtain ⟨n,rfl⟩:∃ j,n=j+1:=⟨n - 1,by omega⟩
    obtain rfl:i=d.head.length:=by omega
    have e99:=c99 (k:=k+16) (fs++d.head.map (hd b')) (fun x hx=>by
     rcases List.mem_append.1 hx with hx | hx
     ·exact hg.fx x hx
     ·obtain ⟨y,hy,rfl⟩:=List.mem_map.1 hx
      have h1:=zfH b' y
      have h2:=zaa hy
      have h3:=hz.2
      omega) (by rw [List.length_append,List.length_map];omega) (by omega)
    rw [F122.L15.succ,ite'_f (lt_f (by omega)),List.take_length,e99]
    simp only [zj,zt,zK,zh]
    have hx:can (fs++d.head.map (hd b'))=tf fs d b ev:=by unfold tf;rw [hbe]
    rw [hx,zo]
    unfold tg
    by_cases h1:nxt > 40
    ·rw [ite'_t (by simpa using h1),if_pos (by omega),hcp,c98x]
     rfl
    ·rw [ite'_f (by simpa using h1),if_neg (by omega)]
     by_cases h2:((tf fs d b ev).length:Int) > 30
     ·rw [ite'_t (by simpa using h2),if_pos h2,hcp,c98x]
      rfl
     ·rw [ite'_f (by simpa using h2),if_neg h2]
      rfl
   | succ m ih =>
    intro i n hm hn
    obtain ⟨n,rfl⟩:∃ j,n=j+1:=⟨n - 1,by omega⟩
    have hi:i < d.head.length:=by omega
    have hgt:=List.getElem?_eq_getElem hi
    have hm2:=List.getElem_mem hi
    have hlt:=zaa hm2
    have hz2:=hz.2
    have:=ih (i+1) n (by omega) (by omega)
    rw [List.take_succ_eq_append_getElem hi,List.map_append,List.map_singleton,← List.append_assoc] at this
    rw [F122.L15.succ,ite'_t (lt_t hi),zo,ite'_t (zn hi),zaT hgt,ze,zaU hgt,zh,c97g (k:=k+17) d.head[i] b' (hT _ hm2) (by omega) hb' (by omega),znz,zy hi (m:=d.head.length) (by omega),zo,ite'_t (zS (by rw [List.length_append,List.length_map,List.length_take];simp only [List.length_cons,List.length_nil];omega))]
    rw [znt,← zif] at this
    exact this
  have:=main d.head.length 0 (k+20) (by omega) (by omega)
  simpa using this
 have outer:∀ (m i n:Nat) (b':List Int) (nxt:Int),i+m=ev.length→m < n→b'.length=5→nxt=nx fs+(i:Int)→setE b' (ev.drop i) nxt=setE b ev (nx fs) →
   F122.L8 (k+20) (C (k+20)) n nxt (ev.length:Int) (i:Int) a (A1 fs) [] [] (A1 d.body) (A1 d.head) d.egd d.l d.r (I1 b') (I1 ev)=pr a (tg fs d b ev).1 (tg fs d b ev).2:=by
  intro m
  induction m with
  | zero =>
   intro i n b' nxt hm hn hb' hx hse
   obtain ⟨n,rfl⟩:∃ j,n=j+1:=⟨n - 1,by omega⟩
   obtain rfl:i=ev.length:=by omega
   rw [List.drop_length] at hse
   rw [F122.L8.succ,ite'_f (lt_f (by omega)),hcp,c98x,zo]
   exact key b' nxt hb' hx hse
  | succ m ih =>
   intro i n b' nxt hm hn hb' hx hse
   obtain ⟨n,rfl⟩:∃ j,n=j+1:=⟨n - 1,by omega⟩
   have hi:i < ev.length:=by omega
   have hgt:=List.getElem?_eq_getElem hi
   obtain ⟨z0,z4⟩:=he _ (List.getElem_mem hi)
   obtain ⟨q,hq⟩:∃ q:Nat,ev[i]=(q:Int):=⟨ev[i].toNat,by omega⟩
   have hq5:q < b'.length:=by omega
   rw [List.drop_eq_getElem_cons hi,setE] at hse
   rw [F122.L8.succ,ite'_t (lt_t hi),zl,ite'_t (zn hi),I1_c hgt,ze,show (C (k+20) 96 [.d (.int .i64 nxt)])=io (neg nxt) from by rw [F96.run,zad (by omega) (by omega)];rfl,iB',hq,zl,ite'_t (zn hq5),zy hi (m:=ev.length) (by omega),zad (n:=nxt+1) (by omega) (by omega)]
   rw [show ((q:Int)).toNat=q from rfl,zcy _ hq5]
   rw [hq] at hse
   exact ih (i+1) n _ _ (by omega) (by omega) (by rw [List.length_set];exact hb') (by omega) hse
 exact outer ev.length 0 (k+20) b (nx fs) (by omega) (by omega) hb (by simp) rfl
end Go.Proofs.YthicohakeljdcaaGreat.Q
namespace Go.Proofs.YthicohakeljdcaaGreat.Q
open Go Ovi
variable {k:Nat}
def Sp (r:Option Res) (a:Ovi.Rows) (fs:List Atom) (c:Int):Prop:=∃ r',r=some r'∧resL 3 2 true 2 r' 0 0=some a∧resL 2 2 true 2 r' 0 1=some (A1 fs)∧resI .i64 2 false 1 r' 1 0=some c
theorem Sp.pr (a:Ovi.Rows) (fs:List Atom) (c:Int):Sp (pr a fs c) a fs c:=⟨_,rfl,rfl,rfl,by simp [resI,zX,zx]⟩
theorem Sp.w (a:Ovi.Rows) (fs:List Atom) (c:Int):Sp (some [(true,[.row 133 3 a,.row 118 2 (A1 fs)]),(false,[.d (.int .i64 c)])]) a fs c:=⟨_,rfl,rfl,rfl,by simp [resI,zX,zx]⟩
theorem Sp.d (a:Ovi.Rows) (fs:List Atom) (c:Int):Sp (some [(true,[.d (.list 3 a),.d (.list 2 (A1 fs))]),(false,[.d (.int .i64 c)])]) a fs c:=⟨_,rfl,by simp [resL,zX,D.asL],by simp [resL,zX,D.asL],by simp [resI,zX,zx]⟩
theorem l118 {a:Ovi.Rows} {fs:List Atom} (hg:Gd a fs) (hv:Vl a fs) (d:Dep) (hT:∀ x∈d.head,okT x.2) (hz:Dsz d) (hh:d.head.length≤2) (b ev:List Int) (hb:b.length=5) (hbI:∀ v∈b,inI v) (he:∀ z∈ev,0≤z∧z≤4) (hel:ev.length≤1000000) (hn40:0≤nx fs∧nx fs≤40) (hk:2000000≤k) :
  Sp (F118.L15 (k+20) (C (k+20)) (k+20) 0 a (A1 fs) (A1 d.body) (A1 d.head) d.egd d.l d.r [] [] a (A1 fs) (I1 b) (I1 ev)) a (tg fs d b ev).1 (tg fs d b ev).2:=by
 have hmax:(1048576:Nat)≤maxLen:=by decide
 have hs:=hg.hs
 have hn30:=hv.n30
 have key:∀ (b':List Int),b'.length=5→(∀ v∈b',inI v)→nx fs+(ev.length:Int)≤40→b'=setE b ev (nx fs)→Sp (F118.L23 (k+20) (C (k+20)) (k+20) (I1 b') 0 (A1 d.body) (A1 d.head) d.egd d.l d.r [] [] a (A1 fs) a (A1 fs)) a (tg fs d b ev).1 (tg fs d b ev).2:=by
  intro b' hb' hbI' hle hbe
  have main:∀ (m i n:Nat) (gs:List Atom),i+m=d.head.length→m < n→SSA gs→(∀ z,z∈gs↔z∈fs++(d.head.take i).map (hd b'))→gs.length≤fs.length+i→Sp (F118.L23 (k+20) (C (k+20)) n (I1 b') (i:Int) (A1 d.body) (A1 d.head) d.egd d.l d.r [] [] a (A1 fs) a (A1 gs)) a (tg fs d b ev).1 (tg fs d b ev).2:=by
   intro m
   induction m with
   | zero =>
    intro i n gs hm hn hS hmem hgl
    obtain ⟨n,rfl⟩:∃ j,n=j+1:=⟨n - 1,by omega⟩
    obtain rfl:i=d.head.length:=by omega
    have e:gs=tf fs d b ev:=by
     refine zkv hS (zd2 _) fun z=>?_
     rw [hmem z,List.take_length,hbe]
     exact (zbM _ _).symm
    subst e
    rw [F118.L23.succ,zo,zo,ite'_f (lt_f (by omega))]
    unfold tg
    rw [if_neg (by omega)]
    by_cases h2:((tf fs d b ev).length:Int) > 30
    ·rw [ite'_t (by simpa using h2),if_pos h2]
     exact Sp.d a fs 3
    ·rw [ite'_f (by simpa using h2),if_neg h2,c92 (k:=k+17) hg.hal (tf fs d b ev) (fun z hz'=>by
      rcases List.mem_append.1 ((zbM _ _).1 hz') with hx | hx
      ·exact hg.fx z hx
      ·obtain ⟨y,hy,rfl⟩:=List.mem_map.1 hx
       have h1:=zfH (setE b ev (nx fs)) y
       have h2:=zaa hy
       have h3:=hz.2
       omega) (by omega) (by omega),c98x]
     exact Sp.w a _ 1
   | succ m ih =>
    intro i n gs hm hn hS hmem hgl
    obtain ⟨n,rfl⟩:∃ j,n=j+1:=⟨n - 1,by omega⟩
    have hi:i < d.head.length:=by omega
    have hgt:=List.getElem?_eq_getElem hi
    have hm2:=List.getElem_mem hi
    have hlt:=zaa hm2
    have hz2:=hz.2
    have hl2:=zfH b' d.head[i]
    obtain ⟨r,ws,e1,e2,e3,e4,e5,e6⟩:=c91 (k:=k+15) (a:=a) gs (hd b' d.head[i]) hS (fun z hz'=>by
      rcases List.mem_append.1 ((hmem z).1 hz') with hx | hx
      ·exact hg.fx z hx
      ·obtain ⟨y,hy,rfl⟩:=List.mem_map.1 hx
       have h1:=zfH b' y
       have h2:=zaa (List.mem_of_mem_take hy)
       have h3:=hz.2
       omega) (by omega) (by omega) (by omega)
    rw [F118.L23.succ,zo,ite'_t (lt_t hi),ite'_t (zn hi),zaT hgt,ze,zaU hgt,zh,c90g (k:=k+16) d.head[i] b' (hT _ hm2) (by omega) hb' hbI' (by omega),znz,zy hi (m:=d.head.length) (by omega)]
    rw [show hd b' d.head[i]=(hr d.head[i].1 (insG b' d.head[i].2),(insG b' d.head[i].2).getD []) from znt _ _] at e1
    rw [show (C (k+20) 91 [.agg [.d (.list 3 a),.d (.list 2 (A1 gs))],.agg [.d (.int .i64 (hr d.head[i].1 (insG b' d.head[i].2))),.d (.list 1 (I1 ((insG b' d.head[i].2).getD [])))]])=some r from e1,R54 e2 e3]
    refine ih (i+1) n ws (by omega) (by omega) e4 (fun z=>?_) (by omega)
    rw [e5,hmem,List.take_succ_eq_append_getElem hi,List.map_append,← List.append_assoc,List.mem_append (s:=fs++_),List.map_singleton,List.mem_singleton]
  exact main d.head.length 0 (k+20) fs (by omega) (by omega) hv.ss (by simp) (by omega)
 have outer:∀ (m i n:Nat) (b':List Int),i+m=ev.length→m < n→b'.length=5→(∀ v∈b',inI v)→(i≠0→nx fs+(i:Int)≤40)→setE b' (ev.drop i) (nx fs+(i:Int))=setE b ev (nx fs) →
   Sp (F118.L15 (k+20) (C (k+20)) n (i:Int) a (A1 fs) (A1 d.body) (A1 d.head) d.egd d.l d.r [] [] a (A1 fs) (I1 b') (I1 ev)) a (tg fs d b ev).1 (tg fs d b ev).2:=by
  intro m
  induction m with
  | zero =>
   intro i n b' hm hn hb' hbI' h40 hse
   obtain ⟨n,rfl⟩:∃ j,n=j+1:=⟨n - 1,by omega⟩
   obtain rfl:i=ev.length:=by omega
   rw [List.drop_length] at hse
   rw [F118.L15.succ,zl,ite'_f (lt_f (by omega))]
   refine key b' hb' hbI' ?_ hse
   by_cases h0:ev.length=0
   ·rw [h0];omega
   ·exact h40 h0
  | succ m ih =>
   intro i n b' hm hn hb' hbI' h40 hse
   obtain ⟨n,rfl⟩:∃ j,n=j+1:=⟨n - 1,by omega⟩
   have hi:i < ev.length:=by omega
   have hgt:=List.getElem?_eq_getElem hi
   obtain ⟨z0,z4⟩:=he _ (List.getElem_mem hi)
   obtain ⟨q,hq⟩:∃ q:Nat,ev[i]=(q:Int):=⟨ev[i].toNat,by omega⟩
   have hq5:q < b'.length:=by omega
   rw [List.drop_eq_getElem_cons hi,setE] at hse
   have e75:=(zkc (k:=k+14) a fs hg.hI (by omega) (by omega)).2
   unfold ia at e75
   rw [F118.L15.succ,zl,ite'_t (lt_t hi),show (C (k+20) 186 [.agg [.d (.list 3 a),.d (.list 2 (A1 fs))]])=io (nx fs) from e75,iB',zad (n:=nx fs+(i:Int)) (by omega) (by omega)]
   by_cases h4:nx fs+(i:Int) ≥ 40
   ·rw [ite'_t (by simpa using h4)]
    unfold tg
    rw [if_pos (by omega)]
    exact Sp.w a fs 3
   ·rw [ite'_f (by simpa using h4),ite'_t (zn hi),I1_c hgt,ze,show (C (k+20) 70 [.d (.int .i64 (nx fs+(i:Int)))])=io (neg (nx fs+(i:Int))) from by rw [F70.run,zad (by omega) (by omega)];rfl,iB',hq,zl,ite'_t (zn hq5),zy hi (m:=ev.length) (by omega),show ((q:Int)).toNat=q from rfl,zcy _ hq5]
    rw [hq] at hse
    refine ih (i+1) n _ (by omega) (by omega) (by rw [List.length_set];exact hb') (fun v hv'=>?_) (fun _=>by omega) ?_
    ·rcases List.mem_or_eq_of_mem_set hv' with hv' | rfl
     ·exact hbI' v hv'
     ·unfold inI neg;omega
    ·rw [show nx fs+((i+1:Nat):Int)=nx fs+(i:Int)+1 by omega]
     exact hse
 exact outer ev.length 0 (k+20) b (by omega) (by omega) hb hbI (by simp) (by simp)
end Go.Proofs.YthicohakeljdcaaGreat.Q
namespace Go.Proofs.YthicohakeljdcaaGreat.Q
open Go Ovi
variable {k:Nat}
theorem aB {a X:Ovi.Rows} {f:Ovi.Rows→Ovi.Rows→Bool→Option Res}:(za (some [(true,[.row 133 3 a,.frow 118 2 1 X]),(false,[.d (.bool true)])]) fun r=>zc (resO 133 3 2 true 2 r 0 0) fun l=>zc (resF 118 2 1 2 true 2 r 0 1) fun m=>zi (resB 2 false 1 r 1 0) fun b=>f l m b)=f a X true:=rfl
theorem prB {a:Ovi.Rows} {fs:List Atom} {c:Int} {f:Ovi.Rows→Ovi.Rows→Int→Option Res}:(za (pr a fs c) fun r=>zc (resO 133 3 2 true 2 r 0 0) fun l=>zc (resF 118 2 1 2 true 2 r 0 1) fun m=>zf (resI .i64 2 false 1 r 1 0) fun n=>f l m n)=f a (A1 fs) c:=rfl
theorem mm {p q:Int} (hp:okV p=true) (hq:okV q=true) (h:p < 0∨q < 0):isN (minI p q)=true∧okV (maxI p q)=true∧inI (minI p q)∧inI (maxI p q):=by
 unfold okV at *
 rw [decide_eq_true_eq] at hp hq
 unfold isN inI minI maxI
 rw [decide_eq_true_eq,decide_eq_true_eq]
 by_cases h1:q < p
 ·rw [if_pos h1,if_neg (by omega)];omega
 ·rw [if_neg h1]
  by_cases h2:q > p
  ·rw [if_pos h2];omega
  ·rw [if_neg h2];omega
def eg (fs:List Atom) (p q:Int):List Atom × Int:=if p < 0∨q < 0 then (subI (-1 - minI p q) (maxI p q) fs,1) else (fs,2)
theorem c191 {a:Ovi.Rows} {fs:List Atom} (hg:Gd a fs) (hi:Inst a fs true) {p q:Int} (hp:okV p=true) (hq:okV q=true) (hk:2000000≤k):C (k+12) 191 [ia a fs,.d (.int .i64 p),.d (.int .i64 q)]=pr a (eg fs p q).1 (eg fs p q).2:=by
 have hs:=hg.hs
 have e134:∀ v,C (k+11) 182 [.d (.int .i64 v)]=bo (decide (v < 0)):=fun v=>by rw [F182.run];rfl
 have hsub:p < 0∨q < 0→(za (C (k+11) 82 [.d (.int .i64 (minI p q))]) fun r8=>zf (resI IntKind.i64 2 false 1 r8 0 0) fun n9=>zi (resB 2 false 1 r8 1 0) fun b10=>za (C (k+11) 152 [AV.agg [AV.d (D.list 1 [[D.int IntKind.i64 n9]]),AV.d (D.list 1 [[D.int IntKind.i64 (maxI p q)]])],AV.agg [AV.d (D.list 3 a),AV.d (D.list 2 (A1 fs))]]) fun r11=>zc (resO 133 3 2 true 2 r11 0 0) fun l16=>zc (resF 118 2 1 2 true 2 r11 0 1) fun l50=>zi (resB 2 false 1 r11 1 0) fun b14=>some ([(true,[RL.row 133 3 l16,RL.frow 118 2 1 l50]),(false,[RL.d (D.int IntKind.i64 (1:Int))])]))=pr a (subI (-1 - minI p q) (maxI p q) fs) 1:=by
  intro h
  obtain ⟨m1,m2,m3,m4⟩:=mm hp hq h
  have hn:=zgh m1
  have e136:=zpD (k:=k) (a:=a) (fs:=fs) (-1 - minI p q) (maxI p q) (by unfold zbr;rw [m2,Bool.and_true,decide_eq_true_eq];omega) hi hg.hal hg.fx hg.hI (by omega) hk
  unfold s1 ia at e136
  rw [c82 (k:=k+9) m3,nnB,if_pos m1,e136,aB]
  rfl
 unfold ia
 rw [F191.run,e134,e134,bB,bB]
 unfold eg
 by_cases h1:p < 0
 ·rw [decide_eq_true h1,ite'_nt,if_pos (.inl h1)]
  exact hsub (.inl h1)
 ·rw [decide_eq_false h1,ite'_nf]
  by_cases h2:q < 0
  ·rw [decide_eq_true h2,ite'_nt,if_pos (.inr h2)]
   exact hsub (.inr h2)
  ·rw [decide_eq_false h2,ite'_nf,if_neg (by omega),c98 (k:=k+7) hg.hal fs hg.fx (by omega) (by omega),c98x]
   rfl
theorem zpW {n w v:Int} (hw:inI w) (hv:inI v):inI (sv n w v):=by
 unfold sv
 by_cases h:v=neg n
 ·rw [if_pos h];exact hw
 ·rw [if_neg h];exact hv
theorem zou {a:Ovi.Rows} {fs:List Atom} (hg:Gd a fs) (hv:Vl a fs) {n w:Int} (hw:inI w):Gd a (subI n w fs):=by
 refine hg.of3 (fun x hx=>?_) (fun x hx=>?_) (fun x hx=>?_) ?_
 ·obtain ⟨y,hy,rfl⟩:=List.mem_map.1 ((zbM _ _).1 hx)
  exact hg.hR y hy
 ·obtain ⟨y,hy,rfl⟩:=List.mem_map.1 ((zbM _ _).1 hx)
  intro z hz
  obtain ⟨t,ht,rfl⟩:=List.mem_map.1 hz
  exact zpW hw (hg.hI y hy t ht)
 ·obtain ⟨y,hy,rfl⟩:=List.mem_map.1 ((zbM _ _).1 hx)
  have:=hv.l3 y hy
  simpa [subF] using this
 ·have:=zkM (fs.map (subF n w))
  rw [List.length_map] at this
  have h2:=hv.n30
  unfold subI
  omega
theorem zoP {a:Ovi.Rows} {fs:List Atom} {ib:Bool} {d:Dep} (hg:Gd a fs) (hi:InstY a fs ib) (hv:ib=true→Vl a fs) (hd:DepY a d) (hz:Dsz d) (b:List Int) (hI:∀ v∈b,inI v) (hb:b.length≤1048576) :
  ∃ vb fs' c,(vb=false↔c=0)∧Gd a fs'∧∀ k,3000000≤k→C (k+20) 117 [ia a fs,da d,.d (.list 1 (I1 b))]=bo vb∧C (k+21) 122 [ia a fs,da d,.d (.list 1 (I1 b))]=pr a fs' c∧Sp (C (k+21) 118 [ia a fs,da d,.d (.list 1 (I1 b))]) a fs' c:=by
 have hmax:(1048576:Nat)≤maxLen:=by decide
 have hs:=hg.hs
 obtain ⟨vb,hvb,hact⟩:=actv hi hd hz b hI hb
 have c98k:∀ k,2000000≤k→C (k+20) 98 [.agg [.d (.list 3 a),.d (.list 2 (A1 fs))]]=some [(true,[.row 133 3 a,.frow 118 2 1 (A1 fs)])]:=fun k hk=>c98 (k:=k+16) hg.hal fs hg.fx (by omega) (by omega)
 have c92k:∀ k,2000000≤k→C (k+20) 92 [.agg [.d (.list 3 a),.d (.list 2 (A1 fs))]]=some [(true,[.row 133 3 a,.frow 118 2 1 (A1 fs)])]:=fun k hk=>c92 (k:=k+17) hg.hal fs hg.fx (by omega) (by omega)
 cases hvb0:vb with
 | false =>
  subst hvb0
  refine ⟨false,fs,0,by simp,hg,fun k hk=>?_⟩
  have h:=hact k (by omega)
  have c1:=c98k k (by omega)
  have c2:=c92k k (by omega)
  refine ⟨h.2,?_,?_⟩
  ·unfold ia da at *
   rw [F122.run,h.1,bB,ite'_nf,c1,c98x];rfl
  ·unfold ia da at *
   rw [F118.run,c2,c98x,h.2,bB,ite'_nf]
   exact Sp.w a fs 0
 | true =>
  subst hvb0
  obtain ⟨hib,hb5,hbad,hmiss,hne⟩:=hvb rfl
  subst hib
  have hV:=hv rfl
  have hD:=hd.1
  cases he:d.egd with
  | true =>
   obtain ⟨hhd,hl,hr⟩:=hD.e he
   have okvar:∀ z,zY d.body z→okV (b.getD z.toNat 0)=true∧0≤z∧z≤4:=by
    intro z hzv
    obtain ⟨z0,z4⟩:=zis hD.bv hzv
    obtain ⟨_,x,hx,hzx⟩:=hzv
    have hm:=hmiss x hx
    cases hins:insG b x.2 with
    | none=>rw [zdz hins] at hm;cases hm
    | some vs =>
     have:=(zg6 hins).1 z hzx
     unfold val at this
     rw [if_pos z0] at this
     exact ⟨this,z0,z4⟩
   obtain ⟨hp,l0,l4⟩:=okvar d.l hl
   obtain ⟨hq,r0,r4⟩:=okvar d.r hr
   obtain ⟨p,hpe⟩:∃ p:Nat,d.l=(p:Int):=⟨d.l.toNat,by omega⟩
   obtain ⟨q,hqe⟩:∃ q:Nat,d.r=(q:Int):=⟨d.r.toNat,by omega⟩
   have hp5:p < b.length:=by omega
   have hq5:q < b.length:=by omega
   have hbp:b[p]? = some (b.getD p 0):=by rw [List.getD_eq_getElem?_getD,List.getElem?_eq_getElem hp5];rfl
   have hbq:b[q]? = some (b.getD q 0):=by rw [List.getD_eq_getElem?_getD,List.getElem?_eq_getElem hq5];rfl
   rw [hpe,Int.toNat_natCast] at hp
   rw [hqe,Int.toNat_natCast] at hq
   refine ⟨true,(eg fs (b.getD p 0) (b.getD q 0)).1,(eg fs (b.getD p 0) (b.getD q 0)).2,?_,?_,fun k hk=>?_⟩
   ·unfold eg
    by_cases h:b.getD p 0 < 0∨b.getD q 0 < 0
    ·rw [if_pos h];simp
    ·rw [if_neg h];simp
   ·unfold eg
    by_cases h:b.getD p 0 < 0∨b.getD q 0 < 0
    ·rw [if_pos h];exact zou hg hV (mm hp hq h).2.2.2
    ·rw [if_neg h];exact hg
   ·have h:=hact k (by omega)
    have c2:=c92k k (by omega)
    have e93:=c191 (k:=k+8) hg hi.ok hp hq (by omega)
    refine ⟨h.2,?_,?_⟩
    ·unfold ia da at *
     rw [he,hpe,hqe] at h ⊢
     rw [F122.run,h.1,bB,ite'_nt,ite'_t rfl,zl,ite'_t (zn hp5),I1_c hbp,ze,ite'_t (zn hq5),I1_c hbq,ze,e93,prB]
     rfl
    ·have hsub:b.getD p 0 < 0∨b.getD q 0 < 0→(za (C (k+20) 80 [.d (.int .i64 (minI (b.getD p 0) (b.getD q 0)))]) fun r17=>zf (resI IntKind.i64 2 false 1 r17 0 0) fun n18=>zi (resB 2 false 1 r17 1 0) fun b19=>za (C (k+20) 71 [AV.agg [AV.d (D.list 1 [[D.int IntKind.i64 n18]]),AV.d (D.list 1 [[D.int IntKind.i64 (maxI (b.getD p 0) (b.getD q 0))]])],AV.agg [AV.d (D.list 3 a),AV.d (D.list 2 (A1 fs))]]) fun r20=>zc (resO 133 3 2 true 2 r20 0 0) fun l21=>zc (resF 118 2 1 2 true 2 r20 0 1) fun l22=>zi (resB 2 false 1 r20 1 0) fun b23=>some ([(true,[RL.row 133 3 l21,RL.row 118 2 l22]),(false,[RL.d (D.int IntKind.i64 (1:Int))])]))=some [(true,[RL.row 133 3 a,RL.row 118 2 (A1 (subI (-1 - minI (b.getD p 0) (b.getD q 0)) (maxI (b.getD p 0) (b.getD q 0)) fs))]),(false,[RL.d (D.int IntKind.i64 (1:Int))])]:=by
      intro h
      obtain ⟨m1,m2,m3,m4⟩:=mm hp hq h
      have hn:=zgh m1
      have hn30:=hV.n30
      have e73:=c71s (k:=k+9) (a:=a) (fs:=fs) (-1 - minI (b.getD p 0) (b.getD q 0)) (maxI (b.getD p 0) (b.getD q 0)) (by unfold zbr;rw [m2,Bool.and_true,decide_eq_true_eq];omega) m4 hi.ok hg.hal hg.fx (by omega) (by omega)
      unfold s1 ia at e73
      rw [c80 (k:=k+18) m3,nnB,if_pos m1,e73,aB]
     unfold ia da at *
     rw [he,hpe,hqe] at h ⊢
     rw [F118.run,c2,c98x,h.2,bB,ite'_nt,ite'_t rfl,zl,ite'_t (zn hp5),I1_c hbp,ze,ite'_t (zn hq5),I1_c hbq,ze]
     unfold eg
     by_cases h1:b.getD p 0 < 0
     ·rw [ite'_f (decide_eq_false (by omega)),hsub (.inl h1),if_pos (.inl h1)]
      exact Sp.w a _ 1
     ·rw [ite'_t (decide_eq_true (by omega))]
      by_cases h2:b.getD q 0 < 0
      ·rw [ite'_f (decide_eq_false (by omega)),hsub (.inr h2),if_pos (.inr h2)]
       exact Sp.w a _ 1
      ·rw [ite'_t (decide_eq_true (by omega)),if_neg (by omega)]
       exact Sp.w a fs 2
  | false =>
   obtain ⟨hh2,hht⟩:=hD.t he
   obtain ⟨ev,hev,hevl,hex⟩:=zoU d hz
   have hz2:=hz.2
   have hev4:∀ z∈ev,0≤z∧z≤4:=fun z hzm=>by
    obtain ⟨⟨h0,x,hx,hzx⟩,_⟩:=(hev z).1 hzm
    exact ⟨h0,((hht x hx).2.2 z hzx).2⟩
   have hT:∀ x∈d.head,okT x.2:=fun x hx=>(hht x hx).2.2
   have h40:=znx fs
   have hl3:∀ x∈d.head,x.2.length≤3:=fun x hx=>by
    have h1:=(hht x hx).2.1
    have h2:=hV.ar3 x.1 (hht x hx).1.1 (hht x hx).1.2
    omega
   have hevn:ev.length≤1000000:=by have:=zje hl3;omega
   refine ⟨true,(tg fs d b ev).1,(tg fs d b ev).2,?_,?_,fun k hk=>?_⟩
   ·unfold tg
    by_cases h:nx fs+(ev.length:Int) > 40
    ·rw [if_pos h];simp
    ·rw [if_neg h]
     by_cases h2:((tf fs d b ev).length:Int) > 30
     ·rw [if_pos h2];simp
     ·rw [if_neg h2];simp
   ·unfold tg
    by_cases h:nx fs+(ev.length:Int) > 40
    ·rw [if_pos h];exact hg
    ·rw [if_neg h]
     by_cases h2:((tf fs d b ev).length:Int) > 30
     ·rw [if_pos h2];exact hg
     ·rw [if_neg h2]
      refine hg.of3 (fun x hx=>?_) (fun x hx=>?_) (fun x hx=>?_) (show (tf fs d b ev).length≤30 by omega)
      ·rcases List.mem_append.1 ((zbM _ _).1 hx) with hx | hx
       ·exact hg.hR x hx
       ·obtain ⟨y,hy,rfl⟩:=List.mem_map.1 hx
        have h1:=(hht y hy).1.1
        have h2:=(hht y hy).1.2
        have h3:=hg.hal
        unfold Q.hd
        cases insG (setE b ev (nx fs)) y.2 with
        | some vs=>show inI y.1;unfold inI;omega
        | none=>show inI 0;unfold inI;omega
      ·rcases List.mem_append.1 ((zbM _ _).1 hx) with hx | hx
       ·exact hg.hI x hx
       ·obtain ⟨y,hy,rfl⟩:=List.mem_map.1 hx
        exact zpO _ y
      ·rcases List.mem_append.1 ((zbM _ _).1 hx) with hx | hx
       ·exact hV.l3 x hx
       ·obtain ⟨y,hy,rfl⟩:=List.mem_map.1 hx
        have h1:=zfH (setE b ev (nx fs)) y
        have h2:=hl3 y hy
        omega
   ·have h:=hact k (by omega)
    have c2:=c92k k (by omega)
    have hx1:=(hex (k+17) (by omega)).1
    have hx2:=(hex (k+17) (by omega)).2
    have e94:C (k+20) 192 [.d (.list 1 (I1 b))]=some [(false,[.row 3 1 (I1 b)])]:=by
     have:C (k+20) 192 [.d (.list 1 (I1 b))]=zbv 3 [.d (.list 1 (I1 b))]:=by kernel_rfl
     rw [this]
     simp only [zbv,zbe]
     rw [show Nat.ble b.length 1099511627776=true from Nat.ble_eq_true_of_le (by omega)]
     rfl
    have e95:=(zkc (k:=k+14) a fs hg.hI (by omega) (by omega)).1
    have g1:=l122 (k:=k) hg hV d hT hz hh2 b ev hb5 hev4 hevn h40 (by omega)
    have g2:=l118 (k:=k) hg hV d hT hz hh2 b ev hb5 hI hev4 hevn h40 (by omega)
    refine ⟨h.2,?_,?_⟩
    ·unfold ia da at *
     rw [he] at h hx1 g1 ⊢
     rw [F122.run,h.1,bB,ite'_nt,ite'_f rfl,e94]
     simp only [zj,zt,zh]
     rw [show (C (k+20) 193 [.agg [.d (.list 3 a),.d (.list 2 (A1 fs))]])=io (nx fs) from e95,iB',hx1]
     simp only [zj,zt,zh]
     rw [zl]
     exact g1
    ·unfold ia da at *
     rw [he] at h hx2 g2 ⊢
     rw [F118.run,c2,c98x,h.2,bB,ite'_nt,ite'_f rfl,zl,ite'_t (zS (by omega)),hx2]
     simp only [zj,zt,zh]
     exact g2
end Go.Proofs.YthicohakeljdcaaGreat.Q
namespace Go.Proofs.YthicohakeljdcaaGreat.Q
open Go Ovi
variable {k:Nat}
theorem zpS {fs xs:List Atom} (hf:∀ f∈fs,∀ v∈f.2,inI v):∀ c∈mtc fs xs,∀ v∈c,inI v:=by
 intro c hc v hv
 unfold mtc at hc
 rcases (zgd _ _ _).1 hc with h | h
 ·cases h
 ·rcases ziw fs xs tens c h v hv with h1 | ⟨f,h1,h2⟩
  ·simp [tens] at h1
   subst h1
   unfold inI;omega
  ·exact hf f h1 v h2
theorem znv {fs xs:List Atom} {f:Ovi.Rows→Option Res}:(za (mtr true fs xs) fun r=>zc (resO 39 1 1 false 1 r 0 0) f)=f (LL (mtc fs xs)):=rfl
theorem zjm {l:BL} {i:Nat} {x:List Int} (h:l[i]? = some x):zr 1 (LL l) (i:Int).toNat 0=some (I1 x):=by
 rw [Int.toNat_natCast,zZ (show (LL l)[i]? = some [.list 1 (I1 x)] by simp [LL,h])];simp [zL]
theorem zpB {a:Ovi.Rows} {fs:List Atom} {d:Dep} (hg:Gd a fs) (hi:InstY a fs true) (hd:DepY a d) (hz:Dsz d) :
  ∃ L:BL,L.length≤27000∧(∀ x∈L,x.length=5∧∀ v∈x,inI v)∧∀ k,3000000≤k→C (k+22) 275 [ia a fs,da d]=some [(false,[.row 39 1 (LL L)])]∧C (k+22) 274 [ia a fs,da d]=some [(false,[.row 39 1 (LL L)])]:=by
 have hmax:(1048576:Nat)≤maxLen:=by decide
 have hD:=hd.1
 have hq:Qok a fs d.body (fun _=>true) true:=hi.qok hz.1 hD.b1 (by have:=hD.b2;omega) hD.bV hD.bv
 obtain ⟨m1,m2⟩:=zeT (hq.mok rfl)
 have m3:=zpS (fs:=fs) (xs:=d.body) hg.hI
 have:∀ b:List Int,∃ vb,b∈mtc fs d.body→∀ k,2000000≤k→C (k+20) 190 [ia a fs,da d,.d (.list 1 (I1 b))]=bo vb∧C (k+20) 117 [ia a fs,da d,.d (.list 1 (I1 b))]=bo vb:=by
  intro b
  by_cases h:b∈mtc fs d.body
  ·obtain ⟨vb,_,hv⟩:=actv hi hd hz b (m3 b h) (by rw [m2 b h];omega)
   exact ⟨vb,fun _=>hv⟩
  ·exact ⟨false,fun h'=>absurd h' h⟩
 obtain ⟨act,hact⟩:=Classical.axiomOfChoice this
 refine ⟨(mtc fs d.body).filter act,?_,fun x hx=>?_,fun k hk=>?_⟩
 ·have:=List.length_filter_le act (mtc fs d.body)
  omega
 ·have:=(List.mem_filter.1 hx).1
  exact ⟨m2 x this,m3 x this⟩
 ·have L100:∀ (m i n:Nat),i+m=(mtc fs d.body).length→m < n→F275.L5 (k+21) (C (k+21)) n ((mtc fs d.body).length:Int) (i:Int) a (A1 fs) (A1 d.body) (A1 d.head) d.egd d.l d.r (LL (((mtc fs d.body).take i).filter act)) (LL (mtc fs d.body))=some [(false,[.row 39 1 (LL ((mtc fs d.body).filter act))])]:=by
   intro m
   induction m with
   | zero =>
    intro i n hm hn
    obtain ⟨n,rfl⟩:∃ j,n=j+1:=⟨n - 1,by omega⟩
    obtain rfl:i=(mtc fs d.body).length:=by omega
    rw [F275.L5.succ,ite'_f (lt_f (by omega)),List.take_length]
   | succ m ih =>
    intro i n hm hn
    obtain ⟨n,rfl⟩:∃ j,n=j+1:=⟨n - 1,by omega⟩
    have hi':i < (mtc fs d.body).length:=by omega
    have hgt:=List.getElem?_eq_getElem hi'
    have e:=(hact _ (List.getElem_mem hi') (k+1) (by omega)).1
    have hft:=List.length_filter_le act ((mtc fs d.body).take i)
    rw [List.length_take] at hft
    have:=ih (i+1) n (by omega) (by omega)
    rw [List.take_succ_eq_append_getElem hi',List.filter_append] at this
    unfold ia da at e
    rw [F275.L5.succ,ite'_t (lt_t hi'),zA,ite'_t (zn hi'),zjm hgt,zh,show (C (k+21) 190 [.agg [.d (.list 3 a),.d (.list 2 (A1 fs))],.agg [.d (.list 2 (A1 d.body)),.d (.list 2 (A1 d.head)),.d (.bool d.egd),.d (.int .i64 d.l),.d (.int .i64 d.r)],.d (.list 1 (I1 (mtc fs d.body)[i]))])=bo (act (mtc fs d.body)[i]) from e,bB,zy hi' (m:=(mtc fs d.body).length) (by omega)]
    cases hv:act (mtc fs d.body)[i] with
    | true =>
     rw [ite'_t rfl,zA,ite'_t (zS (by simp only [List.length_cons,List.length_nil];omega)),zda]
     simpa [hv] using this
    | false =>
     rw [ite'_f rfl]
     simpa [hv] using this
  have L80:∀ (m i n:Nat),i+m=(mtc fs d.body).length→m < n→F274.L6 (k+21) (C (k+21)) n (i:Int) a (A1 fs) (A1 d.body) (A1 d.head) d.egd d.l d.r (LL (((mtc fs d.body).take i).filter act)) (LL (mtc fs d.body))=some [(false,[.row 39 1 (LL ((mtc fs d.body).filter act))])]:=by
   intro m
   induction m with
   | zero =>
    intro i n hm hn
    obtain ⟨n,rfl⟩:∃ j,n=j+1:=⟨n - 1,by omega⟩
    obtain rfl:i=(mtc fs d.body).length:=by omega
    rw [F274.L6.succ,zA,ite'_f (lt_f (by omega)),List.take_length]
   | succ m ih =>
    intro i n hm hn
    obtain ⟨n,rfl⟩:∃ j,n=j+1:=⟨n - 1,by omega⟩
    have hi':i < (mtc fs d.body).length:=by omega
    have hgt:=List.getElem?_eq_getElem hi'
    have e:=(hact _ (List.getElem_mem hi') (k+1) (by omega)).2
    have hft:=List.length_filter_le act ((mtc fs d.body).take i)
    rw [List.length_take] at hft
    have:=ih (i+1) n (by omega) (by omega)
    rw [List.take_succ_eq_append_getElem hi',List.filter_append] at this
    unfold ia da at e
    rw [F274.L6.succ,zA,ite'_t (lt_t hi'),ite'_t (zn hi'),zjm hgt,zh,show (C (k+21) 117 [.agg [.d (.list 3 a),.d (.list 2 (A1 fs))],.agg [.d (.list 2 (A1 d.body)),.d (.list 2 (A1 d.head)),.d (.bool d.egd),.d (.int .i64 d.l),.d (.int .i64 d.r)],.d (.list 1 (I1 (mtc fs d.body)[i]))])=bo (act (mtc fs d.body)[i]) from e,bB,zy hi' (m:=(mtc fs d.body).length) (by omega)]
    cases hv:act (mtc fs d.body)[i] with
    | true =>
     rw [ite'_t rfl,ite'_t (zn hi'),zh,zA,ite'_t (zS (by simp only [List.length_cons,List.length_nil];omega)),zda]
     simpa [hv] using this
    | false =>
     rw [ite'_f rfl]
     simpa [hv] using this
  obtain ⟨hd1,hd2⟩:=hd.2 (k+9) (by omega)
  have e1:=c180 (k:=k+5) hq (by omega)
  have e2:=c105 (k:=k+4) hq (by omega)
  unfold ia da at *
  constructor
  ·rw [F275.run,hd1,bB,ite'_nt,e1,znv,zA]
   exact L100 (mtc fs d.body).length 0 (k+21) (by omega) (by omega)
  ·rw [F274.run,hd2,bB,ite'_nt,e2,znv]
   exact L80 (mtc fs d.body).length 0 (k+21) (by omega) (by omega)
theorem acts {a:Ovi.Rows} {fs:List Atom} {ib:Bool} {d:Dep} (hg:Gd a fs) (hi:InstY a fs ib) (hd:DepY a d) (hz:Dsz d) :
  ∃ L:BL,L.length≤27000∧(∀ x∈L,x.length=5∧∀ v∈x,inI v)∧∀ k,3000000≤k→C (k+22) 275 [ia a fs,da d]=some [(false,[.row 39 1 (LL L)])]∧C (k+22) 274 [ia a fs,da d]=some [(false,[.row 39 1 (LL L)])]:=by
 cases ib with
 | true=>exact zpB hg hi hd hz
 | false =>
  refine ⟨[],by simp,by simp,fun k hk=>?_⟩
  have hD:=hd.1
  have hq:Qok a fs d.body (fun _=>true) false:=hi.qok hz.1 hD.b1 (by have:=hD.b2;omega) hD.bV hD.bv
  obtain ⟨hd1,hd2⟩:=hd.2 (k+9) (by omega)
  have e1:=c180 (k:=k+5) hq (by omega)
  have e2:=c105 (k:=k+4) hq (by omega)
  have hn:∀ (f:Ovi.Rows→Option Res),(za (mtr false fs d.body) fun r=>zc (resO 39 1 1 false 1 r 0 0) f)=f []:=fun _=>rfl
  obtain ⟨n,hnk⟩:∃ n,k+21=n+1:=⟨k+20,rfl⟩
  unfold ia da at *
  constructor
  ·rw [F275.run,hd1,bB,ite'_nt,e1,hn,hnk,F275.L5.succ,ite'_f (by decide)]
   rfl
  ·rw [F274.run,hd2,bB,ite'_nt,e2,hn,hnk,F274.L6.succ,ite'_f (by decide)]
   rfl
theorem push (Lp:Nat→Int→Ovi.Rows→Option Res) (fin:Ovi.Rows→Option Res) (L:BL) (i:Int)
  (hstep:∀ (n j:Nat) (acc:List Atom) b,L[j]? = some b→acc.length≤1000000→Lp (n+1) (j:Int) (A1 acc)=Lp n ((j+1:Nat):Int) (A1 (acc++[(i,b)])))
  (hend:∀ (n:Nat) (acc:List Atom),Lp (n+1) (L.length:Int) (A1 acc)=fin (A1 acc)) :
  ∀ (m j n:Nat) (acc:List Atom),j+m=L.length→m < n→acc.length+m≤1000000→Lp n (j:Int) (A1 acc)=fin (A1 (acc++(L.drop j).map fun b=>(i,b))):=by
 intro m
 induction m with
 | zero =>
  intro j n acc hm hn ha
  obtain ⟨n,rfl⟩:∃ p,n=p+1:=⟨n - 1,by omega⟩
  obtain rfl:j=L.length:=by omega
  rw [hend,List.drop_length,List.map_nil,List.append_nil]
 | succ m ih =>
  intro j n acc hm hn ha
  obtain ⟨n,rfl⟩:∃ p,n=p+1:=⟨n - 1,by omega⟩
  have hj:j < L.length:=by omega
  rw [hstep n j acc L[j] (List.getElem?_eq_getElem hj) (by omega),ih (j+1) n _ (by omega) (by omega) (by simp only [List.length_append,List.length_cons,List.length_nil];omega),List.drop_eq_getElem_cons hj]
  simp only [List.append_assoc,List.singleton_append,List.map_cons]
theorem zlL (i:Int) (b:List Int):[[D.int .i64 i,D.list 1 (I1 b)]]=A1 [(i,b)]:=rfl
theorem A1_app' (xs ys:List Atom):A1 xs++A1 ys=A1 (xs++ys):=by simp [A1]
def Tn (Lg:Nat→BL) (i:Nat):List Atom:=(List.range i).flatMap fun j=>(Lg j).map fun b=>((j:Int),b)
theorem zii (Lg:Nat→BL) (i:Nat):Tn Lg (i+1)=Tn Lg i++(Lg i).map fun b=>((i:Int),b):=by
 unfold Tn
 rw [List.range_succ,List.flatMap_append]
 simp
theorem allT {a:Ovi.Rows} {fs:List Atom} {ib:Bool} (hg:Gd a fs) (hi:InstY a fs ib) (ds:List Dep) (hd:∀ d∈ds,DepY a d) (hz:∀ d∈ds,Dsz d) (hl:ds.length≤5) :
  ∃ T:List Atom,T.length≤135000∧(∀ x∈T,(0≤x.1∧x.1 < (ds.length:Int))∧x.2.length=5∧∀ v∈x.2,inI v)∧∀ k,3000000≤k→C (k+24) 251 [ia a fs,.d (.list 5 (DD ds))]=some [(false,[.row 154 2 (A1 T)])]∧C (k+24) 249 [ia a fs,.d (.list 5 (DD ds))]=some [(false,[.row 154 2 (A1 T)])]:=by
 have hmax:(1048576:Nat)≤maxLen:=by decide
 have:∀ i:Nat,∃ L:BL,L.length≤27000∧(∀ x∈L,x.length=5∧∀ v∈x,inI v)∧∀ d,ds[i]? = some d→∀ k,3000000≤k→C (k+22) 275 [ia a fs,da d]=some [(false,[.row 39 1 (LL L)])]∧C (k+22) 274 [ia a fs,da d]=some [(false,[.row 39 1 (LL L)])]:=by
  intro i
  cases h:ds[i]? with
  | none=>exact ⟨[],by simp,by simp,fun d hd=>by cases hd⟩
  | some d =>
   have hm:=List.mem_of_getElem? h
   obtain ⟨L,h1,h2,h3⟩:=acts hg hi (hd d hm) (hz d hm)
   exact ⟨L,h1,h2,fun d' hd'=>by cases hd';exact h3⟩
 obtain ⟨Lg,hLg⟩:=Classical.axiomOfChoice this
 have hlen:∀ i,(Tn Lg i).length≤27000 * i:=by
  intro i
  induction i with
  | zero=>simp [Tn]
  | succ i ih =>
   rw [zii,List.length_append,List.length_map]
   have:=(hLg i).1
   omega
 refine ⟨Tn Lg ds.length,by have:=hlen ds.length;omega,fun x hx=>?_,fun k hk=>?_⟩
 ·unfold Tn at hx
  obtain ⟨j,hj,hx⟩:=List.mem_flatMap.1 hx
  obtain ⟨b,hb,rfl⟩:=List.mem_map.1 hx
  have hj:=List.mem_range.1 hj
  exact ⟨⟨by show (0:Int)≤(j:Int);omega,by show (j:Int) < _;omega⟩,(hLg j).2.1 b hb⟩
 ·have L251:∀ (m i n:Nat),i+m=ds.length→m < n→F251.L3 (k+23) (C (k+23)) n (DD ds) (ds.length:Int) (i:Int) a (A1 fs) (A1 (Tn Lg i))=some [(false,[.row 154 2 (A1 (Tn Lg ds.length))])]:=by
   intro m
   induction m with
   | zero =>
    intro i n hm hn
    obtain ⟨n,rfl⟩:∃ j,n=j+1:=⟨n - 1,by omega⟩
    obtain rfl:i=ds.length:=by omega
    rw [F251.L3.succ,ite'_f (lt_f (by omega))]
   | succ m ih =>
    intro i n hm hn
    obtain ⟨n,rfl⟩:∃ j,n=j+1:=⟨n - 1,by omega⟩
    have hi':i < ds.length:=by omega
    have hgt:=List.getElem?_eq_getElem hi'
    obtain ⟨p1,p2,p3⟩:=hLg i
    have e:=(p3 _ hgt (k+1) (by omega)).1
    have hTl:=hlen i
    unfold ia da at e
    rw [F251.L3.succ,ite'_t (lt_t hi'),zbs,ite'_t (zn hi'),DD_0 hgt,zh,DD_1 hgt,zh,DD_2 hgt,zu,DD_3 hgt,ze,DD_4 hgt,ze]
    rw [show C (k+23) 275 [.agg [.d (.list 3 a),.d (.list 2 (A1 fs))],.agg [.d (.list 2 (A1 ds[i].body)),.d (.list 2 (A1 ds[i].head)),.d (.bool ds[i].egd),.d (.int .i64 ds[i].l),.d (.int .i64 ds[i].r)]]=some [(false,[.row 39 1 (LL (Lg i))])] from e]
    simp only [zj,zt,zh]
    rw [zA]
    have:=push (fun nn j acc=>F251.L6 (k+23) (C (k+23)) n nn (i:Int) (DD ds) (ds.length:Int) (i:Int) ((Lg i).length:Int) j a (A1 fs) acc (LL (Lg i))) (fun acc=>F251.L3 (k+23) (C (k+23)) n (DD ds) (ds.length:Int) ((i+1:Nat):Int) a (A1 fs) acc) (Lg i) (i:Int)
     (fun nn j acc b hb ha=>by
      have hj:=(List.getElem?_eq_some_iff.1 hb).1
      show F251.L6 _ _ _ (nn+1) _ _ _ _ _ _ _ _ _ _=_
      rw [F251.L6.succ,ite'_t (lt_t hj),zA,ite'_t (zn hj),zjm hb,zh,ite'_t (zS (by simp only [zo,List.length_cons,List.length_nil];omega)),zlL,A1_app',zy hj (m:=(Lg i).length) (by omega)])
     (fun nn acc=>by
      show F251.L6 _ _ _ (nn+1) _ _ _ _ _ _ _ _ _ _=_
      rw [F251.L6.succ,ite'_f (lt_f (by omega)),zy hi' (m:=ds.length) (by omega)])
     (Lg i).length 0 (k+23) (Tn Lg i) (by omega) (by omega) (by omega)
    rw [List.drop_zero,← zii] at this
    rw [show ((0:Nat):Int)=0 from rfl] at this
    exact this.trans (ih (i+1) n (by omega) (by omega))
  have L249:∀ (m i n:Nat),i+m=ds.length→m < n→F249.L3 (k+23) (C (k+23)) n (DD ds) (i:Int) a (A1 fs) (A1 (Tn Lg i))=some [(false,[.row 154 2 (A1 (Tn Lg ds.length))])]:=by
   intro m
   induction m with
   | zero =>
    intro i n hm hn
    obtain ⟨n,rfl⟩:∃ j,n=j+1:=⟨n - 1,by omega⟩
    obtain rfl:i=ds.length:=by omega
    rw [F249.L3.succ,zbs,ite'_f (lt_f (by omega))]
   | succ m ih =>
    intro i n hm hn
    obtain ⟨n,rfl⟩:∃ j,n=j+1:=⟨n - 1,by omega⟩
    have hi':i < ds.length:=by omega
    have hgt:=List.getElem?_eq_getElem hi'
    obtain ⟨p1,p2,p3⟩:=hLg i
    have e:=(p3 _ hgt (k+1) (by omega)).2
    have hTl:=hlen i
    unfold ia da at e
    rw [F249.L3.succ,zbs,ite'_t (lt_t hi'),ite'_t (zn hi'),DD_0 hgt,zh,DD_1 hgt,zh,DD_2 hgt,zu,DD_3 hgt,ze,DD_4 hgt,ze]
    rw [show C (k+23) 274 [.agg [.d (.list 3 a),.d (.list 2 (A1 fs))],.agg [.d (.list 2 (A1 ds[i].body)),.d (.list 2 (A1 ds[i].head)),.d (.bool ds[i].egd),.d (.int .i64 ds[i].l),.d (.int .i64 ds[i].r)]]=some [(false,[.row 39 1 (LL (Lg i))])] from e]
    simp only [zj,zt,zh]
    have:=push (fun nn j acc=>F249.L7 (k+23) (C (k+23)) n nn (DD ds) (i:Int) j a (A1 fs) acc (LL (Lg i))) (fun acc=>F249.L3 (k+23) (C (k+23)) n (DD ds) ((i+1:Nat):Int) a (A1 fs) acc) (Lg i) (i:Int)
     (fun nn j acc b hb ha=>by
      have hj:=(List.getElem?_eq_some_iff.1 hb).1
      show F249.L7 _ _ _ (nn+1) _ _ _ _ _ _ _=_
      rw [F249.L7.succ,zA,ite'_t (lt_t hj),ite'_t (zn hj),zjm hb,zh,ite'_t (zS (by simp only [zo,List.length_cons,List.length_nil];omega)),zlL,A1_app',zy hj (m:=(Lg i).length) (by omega)])
     (fun nn acc=>by
      show F249.L7 _ _ _ (nn+1) _ _ _ _ _ _ _=_
      rw [F249.L7.succ,zA,ite'_f (lt_f (by omega)),zy hi' (m:=ds.length) (by omega)])
     (Lg i).length 0 (k+23) (Tn Lg i) (by omega) (by omega) (by omega)
    rw [List.drop_zero,← zii] at this
    rw [show ((0:Nat):Int)=0 from rfl] at this
    exact this.trans (ih (i+1) n (by omega) (by omega))
  unfold ia
  rw [F251.run,F249.run,zbs]
  exact ⟨L251 ds.length 0 (k+23) (by omega) (by omega),L249 ds.length 0 (k+23) (by omega) (by omega)⟩
end Go.Proofs.YthicohakeljdcaaGreat.Q
namespace Go.Proofs.YthicohakeljdcaaGreat.Q
open Go Ovi
variable {k:Nat}
theorem SpB {r:Option Res} {a:Ovi.Rows} {fs:List Atom} {c:Int} {f:Ovi.Rows→Ovi.Rows→Int→Option Res} (h:Sp r a fs c):(za r fun r=>zc (resL 3 2 true 2 r 0 0) fun l=>zc (resL 2 2 true 2 r 0 1) fun m=>zf (resI .i64 2 false 1 r 1 0) fun n=>f l m n)=f a (A1 fs) c:=by
 obtain ⟨r',rfl,h1,h2,h3⟩:=h
 rw [zj,h1,zh,h2,zh,h3,ze]
end Go.Proofs.YthicohakeljdcaaGreat.Q
namespace Go.Proofs.YthicohakeljdcaaGreat.Q
open Go Ovi
variable {k:Nat}
def ChP (r:Option Res) (a:Ovi.Rows) (o:Option (List Atom × Int × List Atom)):Prop:=∃ r',r=some r'∧match o with
 | some (gs,c,st)=>resL 3 2 true 4 r' 0 0=some a∧resL 2 2 true 4 r' 0 1=some (A1 gs)∧resI .i64 2 true 4 r' 0 2=some c∧resL 2 2 true 4 r' 0 3=some (A1 st)∧resB 2 false 1 r' 1 0=some true
 | none=>resL 3 2 true 4 r' 0 0=some []∧resL 2 2 true 4 r' 0 1=some []∧resI .i64 2 true 4 r' 0 2=some 0∧resL 2 2 true 4 r' 0 3=some []∧resB 2 false 1 r' 1 0=some false
theorem ChP.d {a:Ovi.Rows} {gs st:List Atom} {c:Int}:ChP (some [(true,[.d (.list 3 a),.d (.list 2 (A1 gs)),.d (.int .i64 c),.row 154 2 (A1 st)]),(false,[.d (.bool true)])]) a (some (gs,c,st)) :=
 ⟨_,rfl,by simp [resL,zX,D.asL],by simp [resL,zX,D.asL],by simp [resI,zX,zx],rfl,rfl⟩
theorem ChP.w {a:Ovi.Rows} {gs st:List Atom} {c:Int}:ChP (some [(true,[.row 133 3 a,.row 118 2 (A1 gs),.d (.int .i64 c),.row 154 2 (A1 st)]),(false,[.d (.bool true)])]) a (some (gs,c,st)) :=
 ⟨_,rfl,rfl,rfl,by simp [resI,zX,zx],rfl,rfl⟩
theorem ChP.n {a:Ovi.Rows}:ChP (some [(true,[.nil,.nil,.d (.int .i64 0),.nil]),(false,[.d (.bool false)])]) a none:=⟨_,rfl,rfl,rfl,rfl,rfl,rfl⟩
theorem zpJ {a:Ovi.Rows} {fs:List Atom} (hg:Gd a fs) (ds:List Dep) (hz:∀ d∈ds,Dsz d) (hl:ds.length≤1048576) :
  ∃ o,(∀ gs c st,o=some (gs,c,st)→Gd a gs)∧∀ k,3000000≤k→ChP (C (k+25) 209 [ia a fs,.d (.list 5 (DD ds)),.d (.list 0 [])]) a o∧ChP (C (k+25) 208 [ia a fs,.d (.list 5 (DD ds)),.d (.list 0 [])]) a o:=by
 have hmax:(1048576:Nat)≤maxLen:=by decide
 obtain ⟨ib,hi,_⟩:=hg.inst
 obtain ⟨db,hdb,hdk⟩:=deps hg.fit hg.hal ds hz hl
 have hok:=hi.ok
 have hok1:∀ k,2000000≤k→C (k+8) 100 [.agg [.d (.list 3 a),.d (.list 2 (A1 fs))]]=bo ib∧C (k+8) 67 [.agg [.d (.list 3 a),.d (.list 2 (A1 fs))]]=bo ib:=hok
 have hs:=hg.hs
 unfold ia
 by_cases hboth:ib=true∧db=true
 ·obtain ⟨rfl,rfl⟩:=hboth
  obtain ⟨hd5,hdY⟩:=hdb rfl
  have key:∀ (m i:Nat) (gs st:List Atom),i+m=60→Gd a gs→st.length≤i→∃ o,(∀ gs c st,o=some (gs,c,st)→Gd a gs)∧∀ k n,3000000≤k→m+1 < n→ChP (F2090.L5 (k+24) (C (k+24)) n (DD ds) [] (i:Int) 0 [] [] [] 1 a (A1 gs) (A1 st)) a o∧ChP (F2080.L5 (k+24) (C (k+24)) n (DD ds) [] (i:Int) 0 [] [] [] a (A1 gs) 0 (A1 st)) a o:=by
   intro m
   induction m with
   | zero =>
    intro i gs st hm hgs hst
    refine ⟨some (gs,3,st),fun gs' c' st' h=>(by cases h;exact hgs),fun k n hk hn=>?_⟩
    obtain ⟨n,rfl⟩:∃ j,n=j+1:=⟨n - 1,by omega⟩
    obtain rfl:i=60:=by omega
    rw [F2090.L5.succ,F2080.L5.succ,ite'_t (by decide),ite'_t (by decide),ite'_f (by decide)]
    exact ⟨ChP.w,ChP.d⟩
   | succ m ih =>
    intro i gs st hm hgs hst
    obtain ⟨ib',hi2,hv2⟩:=hgs.inst
    obtain ⟨T,hT1,hT2,hT⟩:=allT hgs hi2 ds hdY hz hd5
    by_cases hT0:T=[]
    ·subst hT0
     refine ⟨some (gs,1,st),fun gs' c' st' h=>(by cases h;exact hgs),fun k n hk hn=>?_⟩
     obtain ⟨n,rfl⟩:∃ j,n=j+1:=⟨n - 1,by omega⟩
     obtain ⟨e1,e2⟩:=hT k hk
     unfold ia at e1 e2
     rw [F2090.L5.succ,F2080.L5.succ,ite'_t (by decide),ite'_f (by simp;omega),ite'_t (decide_eq_true (show (i:Int) < 60 by omega)),e1,e2]
     simp only [zj,zt,zh]
     rw [ite'_t (show (((A1 ([]:List Atom)).length:Int)==0)=true from rfl),ite'_t (show (((A1 ([]:List Atom)).length:Int)==0)=true from rfl)]
     exact ⟨ChP.d,ChP.d⟩
    ·obtain ⟨x,r,rfl⟩:=List.exists_cons_of_ne_nil hT0
     obtain ⟨⟨hx0,hx1⟩,hx5,hxI⟩:=hT2 x List.mem_cons_self
     obtain ⟨q,hq⟩:∃ q:Nat,x.1=(q:Int):=⟨x.1.toNat,by omega⟩
     have hqd:q < ds.length:=by omega
     have hgd:=List.getElem?_eq_getElem hqd
     have hmd:=List.getElem_mem hqd
     have hget:(x::r)[0]? = some x:=rfl
     have hc0:zm .i64 (A1 (x::r)) 0 0=some (q:Int):=by rw [← hq];exact zaT (i:=0) hget
     have hc1:zr 1 (A1 (x::r)) 0 1=some (I1 x.2):=zaU (i:=0) hget
     have hin:inR (0:Int) (List.length (A1 (x::r)))=true:=by rw [zo];exact zn (i:=0) (by simp)
     have hne:(((A1 (x::r)).length:Int)==0)=false:=by rw [zo];simp;omega
     obtain ⟨vb,fs',c',hvc,hg',hap⟩:=zoP hgs hi2 hv2 (hdY _ hmd) (hz _ hmd) x.2 hxI (by omega)
     have hfit:fits (List.length (A1 st)+[[D.int IntKind.i64 (q:Int),D.list 1 (I1 x.2)]].length)=true:=zS (by simp only [zo,List.length_cons,List.length_nil];omega)
     have hsn:A1 st++[[D.int IntKind.i64 (q:Int),D.list 1 (I1 x.2)]]=A1 (st++[x]):=by rw [← hq];simp [A1]
     have hnx:IntKind.i64.wrap ((i:Int)+1)=((i+1:Nat):Int):=zy (show i < 60 by omega) (m:=60) (by omega)
     have s1:∀ k n,3000000≤k→F2090.L5 (k+24) (C (k+24)) (n+1) (DD ds) [] (i:Int) 0 [] [] [] 1 a (A1 gs) (A1 st)=F2090.L5 (k+24) (C (k+24)) n (DD ds) [] ((i+1:Nat):Int) 0 [] [] [] c' a (A1 fs') (A1 (st++[x])):=by
      intro k n hk
      obtain ⟨e1,e2⟩:=hT k hk
      have e54:=(hap (k+3) (by omega)).2.1
      unfold ia da at *
      rw [F2090.L5.succ,ite'_t (by decide),ite'_f (by simp;omega),e1]
      simp only [zj,zt,zh]
      rw [ite'_f hne,ite'_f (show decide ((([]:List (List D)).length:Int) > (0:Int))=false from rfl),ite'_t hin,hc0,ze,hc1,zh,zbs,ite'_t (zn hqd),DD_0 hgd,zh,DD_1 hgd,zh,DD_2 hgd,zu,DD_3 hgd,ze,DD_4 hgd,ze]
      rw [show (C (k+24) 122 [.agg [.d (.list 3 a),.d (.list 2 (A1 gs))],.agg [.d (.list 2 (A1 ds[q].body)),.d (.list 2 (A1 ds[q].head)),.d (.bool ds[q].egd),.d (.int .i64 ds[q].l),.d (.int .i64 ds[q].r)],.d (.list 1 (I1 x.2))])=pr a fs' c' from e54,prB,ite'_t hfit,hsn,hnx]
     have s2:∀ k n,3000000≤k→F2080.L5 (k+24) (C (k+24)) (n+1) (DD ds) [] (i:Int) 0 [] [] [] a (A1 gs) 0 (A1 st)=ite' (c' != (1:Int)) (some [(true,[.d (.list 3 a),.d (.list 2 (A1 fs')),.d (.int .i64 c'),.row 154 2 (A1 (st++[x]))]),(false,[.d (.bool true)])]) (F2080.L5 (k+24) (C (k+24)) n (DD ds) [] ((i+1:Nat):Int) 0 [] [] [] a (A1 fs') 0 (A1 (st++[x]))):=by
      intro k n hk
      obtain ⟨e1,e2⟩:=hT k hk
      have e42:=(hap (k+3) (by omega)).2.2
      unfold ia da at *
      rw [F2080.L5.succ,ite'_t (decide_eq_true (show (i:Int) < 60 by omega)),e2]
      simp only [zj,zt,zh]
      rw [ite'_f hne,ite'_f (show decide ((([]:List (List D)).length:Int) > (0:Int))=false from rfl),ite'_t hin,hc0,ze,zbs,ite'_t (zn hqd),DD_0 hgd,zh,DD_1 hgd,zh,DD_2 hgd,zu,DD_3 hgd,ze,DD_4 hgd,ze,ite'_t hin,hc1,zh]
      rw [SpB (r:=C (k+24) 118 [.agg [.d (.list 3 a),.d (.list 2 (A1 gs))],.agg [.d (.list 2 (A1 ds[q].body)),.d (.list 2 (A1 ds[q].head)),.d (.bool ds[q].egd),.d (.int .i64 ds[q].l),.d (.int .i64 ds[q].r)],.d (.list 1 (I1 x.2))]) e42,ite'_t hin,ze,zh,ite'_t hfit,hsn,hnx]
     have hst':(st++[x]).length≤i+1:=by simp only [List.length_append,List.length_cons,List.length_nil];omega
     by_cases hc:c'=1
     ·subst hc
      obtain ⟨o,ho1,ho⟩:=ih (i+1) fs' (st++[x]) (by omega) hg' hst'
      refine ⟨o,ho1,fun k n hk hn=>?_⟩
      obtain ⟨n,rfl⟩:∃ j,n=j+1:=⟨n - 1,by omega⟩
      rw [s1 k n hk,s2 k n hk,ite'_f (by decide)]
      exact ho k n hk (by omega)
     ·refine ⟨some (fs',c',st++[x]),fun gs' c st' h=>(by cases h;exact hg'),fun k n hk hn=>?_⟩
      obtain ⟨n,rfl⟩:∃ j,n=j+1:=⟨n - 1,by omega⟩
      obtain ⟨n',hn'⟩:∃ j,n=j+1:=⟨n - 1,by omega⟩
      rw [s1 k n hk,s2 k n hk,ite'_t (by simpa using hc),hn',F2090.L5.succ,ite'_f (by simpa using hc)]
      exact ⟨ChP.w,ChP.d⟩
  obtain ⟨o,ho1,ho⟩:=key 60 0 fs [] (by omega) hg (by simp)
  refine ⟨o,ho1,fun k hk=>?_⟩
  obtain ⟨g1,g2⟩:=ho k (k+24) hk (by omega)
  rw [F209.run,F208.run,(hok1 (k+16) (by omega)).1,(hok1 (k+16) (by omega)).2,bB,bB,ite'_nt,ite'_nt,(hdk (k+8) (by omega)).1,(hdk (k+8) (by omega)).2,bB,bB,ite'_nt,ite'_nt,c98 (k:=k+20) hg.hal fs hg.fx (by omega) (by omega),c92 (k:=k+21) hg.hal fs hg.fx (by omega) (by omega),c98x,c98x]
  exact ⟨g1,g2⟩
 ·refine ⟨none,fun gs c st h=>(nomatch h),fun k hk=>?_⟩
  have h1:=hok1 (k+16) (by omega)
  have h2:=hdk (k+8) (by omega)
  rw [F209.run,F208.run,h1.1,h1.2,bB,bB]
  cases ib with
  | false=>exact ⟨ChP.n,ChP.n⟩
  | true =>
   rw [ite'_nt,ite'_nt,h2.1,h2.2,bB,bB]
   cases db with
   | false=>exact ⟨ChP.n,ChP.n⟩
   | true=>exact absurd ⟨rfl,rfl⟩ hboth
end Go.Proofs.YthicohakeljdcaaGreat.Q
namespace Go.Proofs.YthicohakeljdcaaGreat.Q
open Go Ovi
variable {k:Nat}
theorem l36 (ws:BL) (hws:ws.length≤27000) (hx:∀ x∈ws,x.length≤3) (hk:2000000≤k):F36.L4 k (C k) k (LL ws) 0 []=some [(false,[.row 39 1 (LL (grnd ws))])]:=by
 have hmax:(1048576:Nat)≤maxLen:=by decide
 have inner:∀ (i:Nat) (hi:i < ws.length) (acc:BL),acc.length≤i→∀ (m j n k4:Nat) (b:Bool),j+m=(ws[i]).length→m < n →
   F36.L8 k (C k) k4 n (LL ws) (i:Int) b (j:Int) (LL acc)=F36.L4 k (C k) k4 (LL ws) ((i+1:Nat):Int) (LL (if (b&&!((ws[i]).drop j).any Ovi.neg)=true then acc++[ws[i]] else acc)):=by
  intro i hi acc ha m
  have hg:=LL_c (List.getElem?_eq_getElem hi)
  have hl:=hx _ (List.getElem_mem hi)
  induction m with
  | zero =>
   intro j n k4 b hm hn
   obtain ⟨n,rfl⟩:∃ p,n=p+1:=⟨n - 1,by omega⟩
   obtain rfl:j=(ws[i]).length:=by omega
   rw [F36.L8.succ,zA,ite'_t (zn hi),hg,zh,zl,ite'_f (lt_f (by omega)),List.drop_length]
   cases b with
   | false =>
    rw [ite'_f rfl,zy hi (m:=ws.length) (by omega)]
    rfl
   | true =>
    rw [ite'_t rfl,ite'_t (zn hi),zh,ite'_t (zS (by rw [zA];simp;omega)),zy hi (m:=ws.length) (by omega),zda]
    rfl
  | succ m ih =>
   intro j n k4 b hm hn
   obtain ⟨n,rfl⟩:∃ p,n=p+1:=⟨n - 1,by omega⟩
   have hj:j < (ws[i]).length:=by omega
   rw [F36.L8.succ,zA,ite'_t (zn hi),hg,zh,zl,ite'_t (lt_t hj)]
   cases b with
   | false =>
    rw [ite'_f rfl,zy hj (m:=(ws[i]).length) (by omega)]
    exact ih (j+1) n k4 false (by omega) (by omega)
   | true =>
    rw [ite'_t rfl,ite'_t (zn hi),zh,zl,ite'_t (zn hj),I1_c (List.getElem?_eq_getElem hj),ze,zy hj (m:=(ws[i]).length) (by omega),ih (j+1) n k4 _ (by omega) (by omega)]
    congr 2
    rw [List.drop_eq_getElem_cons hj,List.any_cons]
    have:decide ((ws[i])[j] ≥ 0)=!Ovi.neg (ws[i])[j]:=by
     unfold Ovi.neg
     by_cases h:(ws[i])[j] < 0
     ·simp [h]
     ·simp [h];omega
    rw [this]
    cases Ovi.neg (ws[i])[j]<;>simp
 have main:∀ (m i n:Nat) (acc:BL),i+m=ws.length→m < n→acc.length≤i→F36.L4 k (C k) n (LL ws) (i:Int) (LL acc)=some [(false,[.row 39 1 (LL (acc++grnd (ws.drop i)))])]:=by
  intro m
  induction m with
  | zero =>
   intro i n acc hm hn ha
   obtain ⟨n,rfl⟩:∃ j,n=j+1:=⟨n - 1,by omega⟩
   obtain rfl:i=ws.length:=by omega
   rw [F36.L4.succ,zA,ite'_f (lt_f (by omega)),List.drop_length]
   simp [grnd]
  | succ m ih =>
   intro i n acc hm hn ha
   obtain ⟨n,rfl⟩:∃ j,n=j+1:=⟨n - 1,by omega⟩
   have hi:i < ws.length:=by omega
   have hl:=hx _ (List.getElem_mem hi)
   have:=inner i hi acc ha (ws[i]).length 0 k n true (by omega) (by omega)
   rw [show ((0:Nat):Int)=0 from rfl] at this
   rw [F36.L4.succ,zA,ite'_t (lt_t hi),this,List.drop_zero,List.drop_eq_getElem_cons hi]
   rw [ih (i+1) n _ (by omega) (by omega) (by
    split
    ·simp only [List.length_append,List.length_cons,List.length_nil];omega
    ·omega)]
   unfold grnd
   rw [List.filter_cons]
   cases h:(ws[i]).any Ovi.neg<;>simp [h]
 have:=main ws.length 0 k [] (by omega) (by omega) (Nat.zero_le _)
 rw [List.drop_zero,List.nil_append] at this
 exact this
theorem zl5 {ws:BL} (h:Good3 ws):Good3 (grnd ws):=by
 have hm:∀ x,x∈grnd ws→x∈ws:=fun x hx=>(List.mem_filter.1 hx).1
 have hl:(grnd ws).length≤ws.length:=List.length_filter_le _ _
 exact ⟨List.Pairwise.filter _ h.ss,Nat.le_trans hl h.len,fun x hx=>h.short x (hm x hx),fun x hx=>h.int x (hm x hx)⟩
theorem e110 {ws:BL} (h:Good3 ws):C (k+1) 110 [.var 0 0,   .d (.int .i64 39),.d (.list 1 (LL ws))]=some [(false,[.frow 39 1 1 (LL (grnd ws))]),(true,[])]:=by
 rw [zd4 (p:=zeL 39) rfl]
 unfold zeL zb2
 simp only [zj7,Option.bind_some]
 have hl:=h.len
 rw [show (Nat.ble ws.length 1099511627776&&ws.all fun z=>Nat.ble z.length 1099511627776)=true by
  rw [Bool.and_eq_true,List.all_eq_true]
  exact ⟨Nat.ble_eq_true_of_le (by omega),fun z hz=>Nat.ble_eq_true_of_le (by have:=h.short z hz;omega)⟩]
 rfl
theorem zpN {a:Ovi.Rows} (ha:Fit Rl (.list 3 a)) (fs xs:List Atom) (q:List Int) (hI:∀ x∈fs,∀ z∈x.2,inI z) (hal:a.length≤1048576) (hfs:zF fs+fs.length≤1048576) (hs:zF xs+xs.length≤1048576) (hq:q.length≤1048576) :
  ∃ ws R1 R2,Good3 ws∧resL 1 1 false 1 R1 0 0=some (LL ws)∧resF 39 1 1 1 false 1 R2 0 0=some (LL ws)∧∀ k,2000000≤k→C (k+21) 36 [.agg [.d (.list 3 a),.d (.list 2 (A1 fs))],.agg [.d (.list 1 (I1 q)),.d (.list 2 (A1 xs))]]=some R1∧C (k+21) 37 [.agg [.d (.list 3 a),.d (.list 2 (A1 fs))],.agg [.d (.list 1 (I1 q)),.d (.list 2 (A1 xs))]]=some R2:=by
 obtain ⟨ws,R1,R2,hg,h1,h2,h3⟩:=zpL ha fs xs q hI hal hfs hs hq
 refine ⟨grnd ws,[(false,[.row 39 1 (LL (grnd ws))])],[(false,[.frow 39 1 1 (LL (grnd ws))])],zl5 hg,rfl,rfl,fun k hk=>⟨?_,?_⟩⟩
 ·rw [F36.run,(h3 k hk).1,zj,h1,zh]
  exact l36 (k:=k+20) ws hg.len hg.short (by omega)
 ·rw [F37.run,(h3 k hk).2,zj,h2,zh,ite'_t (zfA ws),e110 (k:=k+19) hg,zj]
  rfl
end Go.Proofs.YthicohakeljdcaaGreat.Q
namespace Go.Proofs.YthicohakeljdcaaGreat.Q
open Go Ovi
set_option maxRecDepth 1000000
theorem F11.eq (k:Nat) (call:zg) (a0_0 a0_1 a1 a2_0 a2_1:Ovi.Rows):zbT P hs call (11:FuncId) rs6 k Tryz.f11 [.agg [AV.s 3 a0_0,AV.s 2 a0_1],AV.s 5 a1,.agg [AV.s 1 a2_0,AV.s 2 a2_1]]=za (call 12 [.agg [.d (.list 3 a0_0),.d (.list 2 a0_1)],.d (.int .i64 1048576)]) fun r7=>zf (resI .i64 1 false 1 r7 0 0) fun n8=>ite' (decide (n8 < 0)) (some ([(false,[.d (.bool true)])])) (za (call 44 [.d (.list 5 a1),.d (.int .i64 n8)]) fun r9=>zf (resI .i64 1 false 1 r9 0 0) fun n10=>ite' (decide (n10 < 0)) (some ([(false,[.d (.bool true)])])) (za (call 22 [.agg [.d (.list 1 a2_0),.d (.list 2 a2_1)],.d (.int .i64 n10)]) fun r11=>zf (resI .i64 1 false 1 r11 0 0) fun n12=>ite' (decide (n12 < 0)) (some ([(false,[.d (.bool true)])])) (za (call 14 [.agg [.d (.list 3 a0_0),.d (.list 2 a0_1)]]) fun r13=>zc (resO 133 3 1 true 2 r13 0 0) fun l14=>zc (resF 118 2 1 1 true 2 r13 0 1) fun l15=>za (call 47 [.d (.list 5 a1)]) fun r16=>zc (resF 157 5 2 1 false 1 r16 0 0) fun l17=>za (call 25 [.agg [.d (.list 1 a2_0),.d (.list 2 a2_1)]]) fun r18=>zc (resO 3 1 1 true 2 r18 0 0) fun l19=>zc (resF 130 2 1 1 true 2 r18 0 1) fun l20=>za (call 64 [.agg [.d (.list 3 l14),.d (.list 2 l15)],.d (.list 5 l17),.agg [.d (.list 1 l19),.d (.list 2 l20)]]) fun r21=>zc (resL 1 2 false 1 r21 0 0) fun l22=>zi (resB 2 false 1 r21 1 0) fun b23=>za (call 14 [.agg [.d (.list 3 a0_0),.d (.list 2 a0_1)]]) fun r24=>zc (resO 133 3 1 true 2 r24 0 0) fun l25=>zc (resF 118 2 1 1 true 2 r24 0 1) fun l26=>za (call 47 [.d (.list 5 a1)]) fun r27=>zc (resF 157 5 2 1 false 1 r27 0 0) fun l28=>za (call 25 [.agg [.d (.list 1 a2_0),.d (.list 2 a2_1)]]) fun r29=>zc (resO 3 1 1 true 2 r29 0 0) fun l30=>zc (resF 130 2 1 1 true 2 r29 0 1) fun l31=>za (call 65 [.agg [.d (.list 3 l25),.d (.list 2 l26)],.d (.list 5 l28),.agg [.d (.list 1 l30),.d (.list 2 l31)]]) fun r32=>zc (resF 39 1 1 2 false 1 r32 0 0) fun l33=>ite' (depR 1 l33) (zi (resB 2 false 1 r32 1 0) fun b34=>za (call 33 [.d (.list 1 l33),.d (.list 1 l22)]) fun r35=>zi (resB 1 false 1 r35 0 0) fun b36=>ite' (!b36) (some ([(false,[.d (.bool false)])])) (ite' (!b34==b23) (some ([(false,[.d (.bool false)])])) (za (call 14 [.agg [.d (.list 3 a0_0),.d (.list 2 a0_1)]]) fun r37=>zc (resO 133 3 1 true 2 r37 0 0) fun l38=>zc (resF 118 2 1 1 true 2 r37 0 1) fun l39=>za (call 16 [.agg [.d (.list 3 l25),.d (.list 2 l26)],.agg [.d (.list 3 l38),.d (.list 2 l39)]]) fun r40=>zi (resB 1 false 1 r40 0 0) fun b41=>ite' (!b41) (some ([(false,[.d (.bool false)])])) (za (call 47 [.d (.list 5 a1)]) fun r42=>zc (resF 157 5 2 1 false 1 r42 0 0) fun l43=>za (call 50 [.d (.list 5 l28),.d (.list 5 l43)]) fun r44=>zi (resB 1 false 1 r44 0 0) fun b45=>ite' (!b45) (some ([(false,[.d (.bool false)])])) (za (call 25 [.agg [.d (.list 1 a2_0),.d (.list 2 a2_1)]]) fun r46=>zc (resO 3 1 1 true 2 r46 0 0) fun l47=>zc (resF 130 2 1 1 true 2 r46 0 1) fun l48=>za (call 28 [.agg [.d (.list 1 l30),.d (.list 2 l31)],.agg [.d (.list 1 l47),.d (.list 2 l48)]]) fun r49=>zi (resB 1 false 1 r49 0 0) fun b50=>ite' (!b50) (some ([(false,[.d (.bool false)])])) (ite' (depR 0 l25) (ite' (depR 1 l26) (ite' (depR 2 l28) (ite' (depR 0 l30) (ite' (depR 1 l31) (ite' (depR 1 l33) (za (call 17 [.var 0 0,.d (.bool true),.d (.int .i64 1),.d (.int .i64 (↑133:Int)),.d (.list 3 l25),.d (.int .i64 (↑118:Int)),.d (.list 2 l26)]) fun r51=>zc (resO 133 3 3 false 1 r51 0 0) fun l52=>zc (resO 118 2 3 false 1 r51 1 0) fun l53=>zf (resI .i64 3 false 1 r51 2 0) fun n54=>ite' (depR 2 l28) (ite' (depR 0 l30) (ite' (depR 1 l31) (ite' (depR 1 l33) (za (call 52 [.var 0 0,.d (.bool false),.d (.int .i64 n54),.d (.int .i64 (↑157:Int)),.d (.list 5 l28)]) fun r55=>zc (resO 157 5 2 false 1 r55 0 0) fun l56=>zf (resI .i64 2 false 1 r55 1 0) fun n57=>ite' (depR 0 l30) (ite' (depR 1 l31) (ite' (depR 1 l33) (za (call 30 [.var 0 0,.d (.bool true),.d (.int .i64 n57),.d (.int .i64 (↑3:Int)),.d (.list 1 l30),.d (.int .i64 (↑130:Int)),.d (.list 2 l31)]) fun r58=>zc (resO 3 1 3 false 1 r58 0 0) fun l59=>zc (resO 130 2 3 false 1 r58 1 0) fun l60=>zf (resI .i64 3 false 1 r58 2 0) fun n61=>ite' (decide (n61 < 0)) (some ([(false,[.d (.bool false)])])) (za (call 33 [.d (.list 1 l33),.d (.list 1 l22)]) fun r62=>zi (resB 1 false 1 r62 0 0) fun b63=>ite' (!b63) (some ([(false,[.d (.bool false)])])) (ite' (!b34==b23) (some ([(false,[.d (.bool false)])])) (ite' (depR 1 l33) (za (call 34 [.var 0 0,.d (.bool false),.d (.int .i64 1),.d (.int .i64 (↑39:Int)),.d (.list 1 l33)]) fun r64=>zc (resO 39 1 2 false 1 r64 0 0) fun l65=>zf (resI .i64 2 false 1 r64 1 0) fun n66=>za (call 35 [.d (.list 1 l65),.d (.int .i64 1)]) fun r67=>zf (resI .i64 1 false 1 r67 0 0) fun n68=>ite' (decide (n68 < 0)) (some ([(false,[.d (.bool false)])])) (ite' (n68 != n66) (some ([(false,[.d (.bool false)])])) (za (call 14 [.agg [.d (.list 3 a0_0),.d (.list 2 a0_1)]]) fun r69=>zc (resO 133 3 1 true 2 r69 0 0) fun l70=>zc (resF 118 2 1 1 true 2 r69 0 1) fun l71=>za (call 47 [.d (.list 5 a1)]) fun r72=>zc (resF 157 5 2 1 false 1 r72 0 0) fun l73=>za (call 25 [.agg [.d (.list 1 a2_0),.d (.list 2 a2_1)]]) fun r74=>zc (resO 3 1 1 true 2 r74 0 0) fun l75=>zc (resF 130 2 1 1 true 2 r74 0 1) fun l76=>za (call 65 [.agg [.d (.list 3 l70),.d (.list 2 l71)],.d (.list 5 l73),.agg [.d (.list 1 l75),.d (.list 2 l76)]]) fun r77=>zc (resF 39 1 1 2 false 1 r77 0 0) fun l78=>ite' (depR 1 l78) (zi (resB 2 false 1 r77 1 0) fun b79=>za (call 33 [.d (.list 1 l78),.d (.list 1 l22)]) fun r80=>zi (resB 1 false 1 r80 0 0) fun b81=>ite' (!b81) (some ([(false,[.d (.bool false)])])) (ite' (!b79==b23) (some ([(false,[.d (.bool false)])])) (za (call 35 [.d (.list 1 l65),.d (.int .i64 1)]) fun r82=>zf (resI .i64 1 false 1 r82 0 0) fun n83=>ite' (decide (n83 < 0)) (some ([(false,[.d (.bool false)])])) (ite' (n83 != n66) (some ([(false,[.d (.bool false)])])) (some ([(false,[.d (.bool true)])])))))) none))) none)))) none) none) none) none) none) none) none) none) none) none) none) none) none)))))) none))):=by kernel_rfl
variable {k:Nat}
theorem zpa (call:zg) (k:Nat) {a b d q x:Ovi.Rows} {n:Int}
  (t12:call 12 [.agg [.d (.list 3 a),.d (.list 2 b)],.d (.int .i64 1048576)]=some [(false,[.d (.int .i64 n)])]) (hn:decide (n < 0)=true) :
  zbT P hs call (11:FuncId) rs6 k Tryz.f11 [.agg [.s 3 a,.s 2 b],.s 5 d,.agg [.s 1 q,.s 2 x]]=bo true:=by
 rw [F11.eq,t12,zj,zw,ze,ite'_t hn]
 rfl
theorem zo9 (call:zg) (k:Nat) {a b d q x:Ovi.Rows} {n n2:Int}
  (t12:call 12 [.agg [.d (.list 3 a),.d (.list 2 b)],.d (.int .i64 1048576)]=some [(false,[.d (.int .i64 n)])]) (hn:decide (n < 0)=false)
  (t44:call 44 [.d (.list 5 d),.d (.int .i64 n)]=some [(false,[.d (.int .i64 n2)])]) (hn2:decide (n2 < 0)=true) :
  zbT P hs call (11:FuncId) rs6 k Tryz.f11 [.agg [.s 3 a,.s 2 b],.s 5 d,.agg [.s 1 q,.s 2 x]]=bo true:=by
 rw [F11.eq,t12,zj,zw,ze,ite'_f hn,t44,zj,zw,ze,ite'_t hn2]
 rfl
theorem zpb (call:zg) (k:Nat) {a b d q x:Ovi.Rows} {n n2 n3:Int}
  (t12:call 12 [.agg [.d (.list 3 a),.d (.list 2 b)],.d (.int .i64 1048576)]=some [(false,[.d (.int .i64 n)])]) (hn:decide (n < 0)=false)
  (t44:call 44 [.d (.list 5 d),.d (.int .i64 n)]=some [(false,[.d (.int .i64 n2)])]) (hn2:decide (n2 < 0)=false)
  (t22:call 22 [.agg [.d (.list 1 q),.d (.list 2 x)],.d (.int .i64 n2)]=some [(false,[.d (.int .i64 n3)])]) (hn3:decide (n3 < 0)=true) :
  zbT P hs call (11:FuncId) rs6 k Tryz.f11 [.agg [.s 3 a,.s 2 b],.s 5 d,.agg [.s 1 q,.s 2 x]]=bo true:=by
 rw [F11.eq,t12,zj,zw,ze,ite'_f hn,t44,zj,zw,ze,ite'_f hn2,t22,zj,zw,ze,ite'_t hn3]
 rfl
theorem zpc (call:zg) (k:Nat) {a b d q x a' b' d' q' x' B B':Ovi.Rows} {g:Bool} {n n2 n3 z1 z2 z3 zb:Int} {X14 X47 X25 R1 R2 X17 X52 X30 X34:Res}
  (t12:call 12 [.agg [.d (.list 3 a),.d (.list 2 b)],.d (.int .i64 1048576)]=some [(false,[.d (.int .i64 n)])]) (hn:decide (n < 0)=false)
  (t44:call 44 [.d (.list 5 d),.d (.int .i64 n)]=some [(false,[.d (.int .i64 n2)])]) (hn2:decide (n2 < 0)=false)
  (t22:call 22 [.agg [.d (.list 1 q),.d (.list 2 x)],.d (.int .i64 n2)]=some [(false,[.d (.int .i64 n3)])]) (hn3:decide (n3 < 0)=false)
  (t14:call 14 [.agg [.d (.list 3 a),.d (.list 2 b)]]=some X14) (x0:resO 133 3 1 true 2 X14 0 0=some a) (x1:resF 118 2 1 1 true 2 X14 0 1=some b)
  (t47:call 47 [.d (.list 5 d)]=some X47) (x2:resF 157 5 2 1 false 1 X47 0 0=some d)
  (t25:call 25 [.agg [.d (.list 1 q),.d (.list 2 x)]]=some X25) (x3:resO 3 1 1 true 2 X25 0 0=some q) (x4:resF 130 2 1 1 true 2 X25 0 1=some x)
  (t64:call 64 [.agg [.d (.list 3 a),.d (.list 2 b)],.d (.list 5 d),.agg [.d (.list 1 q),.d (.list 2 x)]]=some R1) (r0:resL 1 2 false 1 R1 0 0=some B) (r1:resB 2 false 1 R1 1 0=some g)
  (t65:call 65 [.agg [.d (.list 3 a),.d (.list 2 b)],.d (.list 5 d),.agg [.d (.list 1 q),.d (.list 2 x)]]=some R2) (s0:resF 39 1 1 2 false 1 R2 0 0=some B) (s1:resB 2 false 1 R2 1 0=some g)
  (d1:depR 0 a=true) (d2:depR 1 b=true) (d3:depR 2 d=true) (d4:depR 0 q=true) (d5:depR 1 x=true) (d6:depR 1 B=true)
  (t33:call 33 [.d (.list 1 B),.d (.list 1 B)]=some [(false,[.d (.bool true)])])
  (t16:call 16 [.agg [.d (.list 3 a),.d (.list 2 b)],.agg [.d (.list 3 a),.d (.list 2 b)]]=some [(false,[.d (.bool true)])])
  (t50:call 50 [.d (.list 5 d),.d (.list 5 d)]=some [(false,[.d (.bool true)])])
  (t28:call 28 [.agg [.d (.list 1 q),.d (.list 2 x)],.agg [.d (.list 1 q),.d (.list 2 x)]]=some [(false,[.d (.bool true)])])
  (m17:call 17 [.var 0 0,.d (.bool true),.d (.int .i64 1),.d (.int .i64 133),.d (.list 3 a),.d (.int .i64 118),.d (.list 2 b)]=some X17)
  (v0:resO 133 3 3 false 1 X17 0 0=some a') (v1:resO 118 2 3 false 1 X17 1 0=some b') (v2:resI .i64 3 false 1 X17 2 0=some z1)
  (m52:call 52 [.var 0 0,.d (.bool false),.d (.int .i64 z1),.d (.int .i64 157),.d (.list 5 d)]=some X52)
  (w0:resO 157 5 2 false 1 X52 0 0=some d') (w1:resI .i64 2 false 1 X52 1 0=some z2)
  (m30:call 30 [.var 0 0,.d (.bool true),.d (.int .i64 z2),.d (.int .i64 3),.d (.list 1 q),.d (.int .i64 130),.d (.list 2 x)]=some X30)
  (y0:resO 3 1 3 false 1 X30 0 0=some q') (y1:resO 130 2 3 false 1 X30 1 0=some x') (y2:resI .i64 3 false 1 X30 2 0=some z3) (hz3:0≤z3)
  (m34:call 34 [.var 0 0,.d (.bool false),.d (.int .i64 1),.d (.int .i64 39),.d (.list 1 B)]=some X34)
  (u0:resO 39 1 2 false 1 X34 0 0=some B') (u1:resI .i64 2 false 1 X34 1 0=some zb) (hzb:0≤zb)
  (t35:call 35 [.d (.list 1 B'),.d (.int .i64 1)]=some [(false,[.d (.int .i64 zb)])]) :
  zbT P hs call (11:FuncId) rs6 k Tryz.f11 [.agg [.s 3 a,.s 2 b],.s 5 d,.agg [.s 1 q,.s 2 x]]=bo true:=by
 have n1:decide (z3 < 0)=false:=by simp only [decide_eq_false_iff_not];omega
 have n2':decide (zb < 0)=false:=by simp only [decide_eq_false_iff_not];omega
 have n3':(zb != zb)=false:=zjM _
 have n5:(!g==g)=false:=by cases g<;>rfl
 have tt:(!true)=false:=rfl
 have i0:∀ (x y:Option Res),ite' false x y=y:=fun _ _=>rfl
 have i1:∀ (x y:Option Res),ite' true x y=x:=fun _ _=>rfl
 rw [F11.eq,t12,zj,zw,ze,hn,i0,t44,zj,zw,ze,hn2,i0,t22,zj,zw,ze,hn3,i0]
 simp only [t14,zj,x0,x1,zh,t47,x2,t25,x3,x4,t64,r0,r1,zu,t65,s0,s1,d1,d2,d3,d4,d5,d6,i1]
 simp only [t33,zj,zI,zu,tt,i0,n5,t16,t50,t28]
 rw [m17]
 simp only [zj,v0,v1,v2,zh,ze,i1]
 rw [m52]
 simp only [zj,w0,w1,zh,ze,i1]
 rw [m30]
 simp only [zj,y0,y1,y2,zh,ze,n1,i0,i1,t33,zI,zu,tt,n5]
 rw [m34]
 simp only [zj,u0,u1,zh,ze,t35,zw,n2',n3',i0,i1,t33,zI,zu,tt,n5,d6]
 rfl
theorem F14x {a b:Ovi.Rows}:resO 133 3 1 true 2 [(true,[.row 133 3 a,.frow 118 2 1 b])] 0 0=some a∧resF 118 2 1 1 true 2 [(true,[.row 133 3 a,.frow 118 2 1 b])] 0 1=some b:=⟨rfl,rfl⟩
theorem chB {r:Option Res} {a:Ovi.Rows} {o:Option (List Atom × Int × List Atom)} {f:Ovi.Rows→Ovi.Rows→Int→Ovi.Rows→Bool→Option Res} (h:ChP r a o):(za r fun r5=>zc (resL 3 2 true 4 r5 0 0) fun l6=>zc (resL 2 2 true 4 r5 0 1) fun l7=>zf (resI IntKind.i64 2 true 4 r5 0 2) fun n8=>zc (resL 2 2 true 4 r5 0 3) fun l9=>zi (resB 2 false 1 r5 1 0) fun b10=>f l6 l7 n8 l9 b10)=match o with
  | some (gs,c,st)=>f a (A1 gs) c (A1 st) true
  | none=>f [] [] 0 [] false:=by
 obtain ⟨r',rfl,h⟩:=h
 cases o with
 | none =>
  obtain ⟨h1,h2,h3,h4,h5⟩:=h
  simp only [zj,h1,zh,h2,h3,ze,h4,h5,zu]
 | some p =>
  obtain ⟨gs,c,st⟩:=p
  obtain ⟨h1,h2,h3,h4,h5⟩:=h
  simp only [zj,h1,zh,h2,h3,ze,h4,h5,zu]
theorem zoR {a:Ovi.Rows} {fs:List Atom} (hg:Gd a fs) (ds:List Dep) (hz:∀ d∈ds,Dsz d) (hl:ds.length≤1048576) :
  ∃ o,(∀ gs c st,o=some (gs,c,st)→Gd a gs)∧∀ k,3000000≤k→ChP (C (k+26) 141 [ia a fs,.d (.list 5 (DD ds))]) a o∧ChP (C (k+26) 140 [ia a fs,.d (.list 5 (DD ds))]) a o:=by
 obtain ⟨o,h1,h2⟩:=zpJ hg ds hz hl
 refine ⟨o,h1,fun k hk=>?_⟩
 obtain ⟨g1,g2⟩:=h2 k hk
 unfold ia at *
 rw [F141.run,F140.run,chB g1,chB g2]
 cases o with
 | none=>exact ⟨⟨_,rfl,by simp [resL,zX,D.asL],by simp [resL,zX,D.asL],by simp [resI,zX,zx],by simp [resL,zX,D.asL],rfl⟩,⟨_,rfl,by simp [resL,zX,D.asL],by simp [resL,zX,D.asL],by simp [resI,zX,zx],by simp [resL,zX,D.asL],rfl⟩⟩
 | some p =>
  obtain ⟨gs,c,st⟩:=p
  exact ⟨⟨_,rfl,by simp [resL,zX,D.asL],by simp [resL,zX,D.asL],by simp [resI,zX,zx],by simp [resL,zX,D.asL],rfl⟩,⟨_,rfl,by simp [resL,zX,D.asL],by simp [resL,zX,D.asL],by simp [resI,zX,zx],by simp [resL,zX,D.asL],rfl⟩⟩
theorem zpt {a:Ovi.Rows} (ha:Fit Rl (.list 3 a)) (hal:a.length≤1048576) (xs:List Atom) (q:List Int) (hs:zF xs+xs.length≤1048576) (hq:q.length≤1048576) :
  ∃ b,∀ k,2000000≤k→C (k+10) 95 [.d (.list 3 a),.agg [.d (.list 1 (I1 q)),.d (.list 2 (A1 xs))]]=bo b∧C (k+10) 89 [.d (.list 3 a),.agg [.d (.list 1 (I1 q)),.d (.list 2 (A1 xs))]]=bo b:=by
 have hmax:(1048576:Nat)≤maxLen:=by decide
 obtain ⟨valid,h1,h2⟩:=zfd ha xs (fun x hx=>by have:=zaa hx;omega)
 exact ⟨qOk valid xs q,fun k hk=>⟨c95 h2 hk hal hs hq,c89 h2 hk hal hs hq⟩⟩
theorem zpI {a:Ovi.Rows} {fs:List Atom} (hg:Gd a fs) (ds:List Dep) (hz:∀ d∈ds,Dsz d) (hl:ds.length≤1048576) (xs:List Atom) (q:List Int) (hs:zF xs+xs.length≤1048576) (hq:q.length≤1048576) :
  ∃ ws g R1 R2,Good3 ws∧resL 1 2 false 1 R1 0 0=some (LL ws)∧resB 2 false 1 R1 1 0=some g∧resF 39 1 1 2 false 1 R2 0 0=some (LL ws)∧resB 2 false 1 R2 1 0=some g ∧
   ∀ k,3000000≤k→C (k+27) 64 [ia a fs,.d (.list 5 (DD ds)),.agg [.d (.list 1 (I1 q)),.d (.list 2 (A1 xs))]]=some R1∧C (k+27) 65 [ia a fs,.d (.list 5 (DD ds)),.agg [.d (.list 1 (I1 q)),.d (.list 2 (A1 xs))]]=some R2:=by
 obtain ⟨o,ho,hc⟩:=zoR hg ds hz hl
 obtain ⟨vb,hv⟩:=zpt hg.fit hg.hal xs q hs hq
 have no:(∀ k,3000000≤k→C (k+27) 64 [ia a fs,.d (.list 5 (DD ds)),.agg [.d (.list 1 (I1 q)),.d (.list 2 (A1 xs))]]=some [(false,[RL.nil]),(false,[RL.d (D.bool false)])]∧C (k+27) 65 [ia a fs,.d (.list 5 (DD ds)),.agg [.d (.list 1 (I1 q)),.d (.list 2 (A1 xs))]]=some [(false,[RL.nil]),(false,[RL.d (D.bool false)])]) →
   ∃ ws g R1 R2,Good3 ws∧resL 1 2 false 1 R1 0 0=some (LL ws)∧resB 2 false 1 R1 1 0=some g∧resF 39 1 1 2 false 1 R2 0 0=some (LL ws)∧resB 2 false 1 R2 1 0=some g ∧
   ∀ k,3000000≤k→C (k+27) 64 [ia a fs,.d (.list 5 (DD ds)),.agg [.d (.list 1 (I1 q)),.d (.list 2 (A1 xs))]]=some R1∧C (k+27) 65 [ia a fs,.d (.list 5 (DD ds)),.agg [.d (.list 1 (I1 q)),.d (.list 2 (A1 xs))]]=some R2:=fun h =>
  ⟨[],false,_,_,zj0,rfl,rfl,rfl,rfl,h⟩
 cases o with
 | none =>
  refine no fun k hk=>?_
  obtain ⟨g1,g2⟩:=hc k hk
  unfold ia at *
  rw [F64.run,F65.run,chB g1,chB g2]
  exact ⟨rfl,rfl⟩
 | some p =>
  obtain ⟨gs,c,st⟩:=p
  have hgg:=ho gs c st rfl
  by_cases hc1:c=1
  ·subst hc1
   cases vb with
   | false =>
    refine no fun k hk=>?_
    obtain ⟨g1,g2⟩:=hc k hk
    obtain ⟨v1,v2⟩:=hv (k+16) (by omega)
    unfold ia at *
    rw [F64.run,F65.run,chB g1,chB g2]
    simp only []
    rw [ite'_f (show (!true)=false from rfl),ite'_f (show (!true)=false from rfl),ite'_f (show ((1:Int) != 1)=false from rfl),ite'_f (show ((1:Int) != 1)=false from rfl),v1,v2,bB,bB]
    exact ⟨rfl,rfl⟩
   | true =>
    have hgs:=hgg.hs
    obtain ⟨ws,R1,R2,hG,h1,h2,h3⟩:=zpN hgg.fit gs xs q hgg.hI hgg.hal (by omega) hs hq
    refine ⟨ws,true,[(false,[.d (.list 1 (LL ws))]),(false,[.d (.bool true)])],[(false,[.frow 39 1 1 (LL ws)]),(false,[.d (.bool true)])],hG,by simp [resL,zX,D.asL],rfl,rfl,rfl,fun k hk=>?_⟩
    obtain ⟨g1,g2⟩:=hc k hk
    obtain ⟨v1,v2⟩:=hv (k+16) (by omega)
    obtain ⟨w1,w2⟩:=h3 (k+5) (by omega)
    unfold ia at *
    rw [F64.run,F65.run,chB g1,chB g2]
    simp only []
    rw [ite'_f (show (!true)=false from rfl),ite'_f (show (!true)=false from rfl),ite'_f (show ((1:Int) != 1)=false from rfl),ite'_f (show ((1:Int) != 1)=false from rfl),v1,v2,bB,bB,ite'_nt,ite'_nt,w1,w2,zj,h1,zh,zj,h2,zh,ite'_t (zfA ws)]
    exact ⟨rfl,rfl⟩
  ·refine no fun k hk=>?_
   obtain ⟨g1,g2⟩:=hc k hk
   have hne:(c != (1:Int))=true:=by simpa using hc1
   unfold ia at *
   rw [F64.run,F65.run,chB g1,chB g2]
   simp only []
   rw [ite'_f (show (!true)=false from rfl),ite'_f (show (!true)=false from rfl),ite'_t hne,ite'_t hne]
   exact ⟨rfl,rfl⟩
set_option maxRecDepth 1000000 in
theorem zpQ (hk:4000000≤k) {a b d q x:Ovi.Rows} (h1:Fit Rl (.list 3 a)) (h2:Fit At (.list 2 b)) (h3:Fit Dt (.list 5 d)) (h4:Fit In1 (.list 1 q)) (h5:Fit At (.list 2 x)):zbT P hs (C k) (11:FuncId) rs6 k Tryz.f11 [.agg [.s 3 a,.s 2 b],.s 5 d,.agg [.s 1 q,.s 2 x]]=bo true:=by
 obtain ⟨k,rfl⟩:∃ j,k=j+33:=⟨k - 33,by omega⟩
 have t12:=c12 (k:=k+33) (by omega) h1 h2 (left:=1048576) (by omega) (by omega)
 rcases zW 1048576 (szC [.list 3 a,.list 2 b]) with ⟨q1,e1⟩ | ⟨q1,e1⟩<;>rw [e1] at t12
 rotate_left
 ·exact zpa _ _ t12 zeU
 have p1:=q1
 simp only [szC] at p1
 have z1:szD (.list 3 a)≤1048576:=by omega
 have z2:szD (.list 2 b)≤1048576:=by omega
 have t44:=c44 (k:=k+33) (by omega) h3 (left:=1048576 - ((szC [.list 3 a,.list 2 b]:Nat):Int)) (by omega) (by omega)
 rcases zW (1048576 - ((szC [.list 3 a,.list 2 b]:Nat):Int)) (szD (.list 5 d)) with ⟨q2,e2⟩ | ⟨q2,e2⟩<;>rw [e2] at t44
 rotate_left
 ·exact zo9 _ _ t12 (zaC (by omega)) t44 zeU
 have z3:szD (.list 5 d)≤1048576:=by omega
 have t22:=c22 (k:=k+33) (by omega) h4 h5 (left:=1048576 - ((szC [.list 3 a,.list 2 b]:Nat):Int) - ((szD (.list 5 d):Nat):Int)) (by omega) (by omega)
 rcases zW (1048576 - ((szC [.list 3 a,.list 2 b]:Nat):Int) - ((szD (.list 5 d):Nat):Int)) (szC [.list 1 q,.list 2 x]) with ⟨q3,e3⟩ | ⟨q3,e3⟩<;>rw [e3] at t22
 rotate_left
 ·exact zpb _ _ t12 (zaC (by omega)) t44 (zaC (by omega)) t22 zeU
 have p3:=q3
 simp only [szC] at p3
 have z4:szD (.list 1 q)≤1048576:=by omega
 have z5:szD (.list 2 x)≤1048576:=by omega
 have t14:=c14 (k:=k+33) (by omega) h1 h2 z1 z2
 have t16:=c16 (k:=k+33) (by omega) h1 h2 z1 z2
 have t47:=c47 (k:=k+33) (by omega) h3 z3
 have t50:=c50 (k:=k+33) (by omega) h3 z3
 have t25:=c25 (k:=k+33) (by omega) h4 h5 z4 z5
 have t28:=c28 (k:=k+33) (by omega) h4 h5 z4 z5
 obtain ⟨fs,rfl,hF⟩:=h2.atoms'
 obtain ⟨xs,rfl,hX⟩:=h5.atoms'
 obtain ⟨q,rfl⟩:=h4.ints
 obtain ⟨ds,rfl⟩:=zmM h3
 obtain ⟨y1,y2⟩:=zoS z3
 have x2:=z2
 have x4:=z4
 have x5:=z5
 rw [zfc] at x2 x5
 rw [zow] at x4
 have ya:=Nat.le_trans zox z1
 have hmax:(1048576:Nat)≤maxLen:=by decide
 obtain ⟨B,g,R1,R2,hB,r0,r1,s0,s1,hce⟩:=zpI (a:=a) (fs:=fs) ⟨h1,ya,fun x hx=>(hF x hx).2,by omega,fun x hx=>(hF x hx).1⟩ ds y2 y1 xs q (by omega) x4
 obtain ⟨g1,g2⟩:=hce (k+6) (by omega)
 unfold ia at g1 g2
 have hBt:tot B≤3 * B.length:=by
  have hs:=hB.short
  clear hce r0 s0 hB
  unfold tot
  induction B with
  | nil=>simp
  | cons b r ih =>
   have h3:=hs b List.mem_cons_self
   have h4:=ih fun b hb=>hs b (List.mem_cons_of_mem _ hb)
   simp only [List.map_cons,List.sum_cons,List.length_cons]
   omega
 have hBl:=hB.len
 have hBf:Fit (.list [.list [.int .i64]]) (.list 1 (LL B)):=zmf B hB.int (by omega) (fun b hb=>by have:=hB.short b hb;omega)
 have t33:=c33 (k:=k+33) (by omega) hBf (by rw [zmY];omega)
 have h133:((133:Nat):Int)=133:=rfl
 have h118:((118:Nat):Int)=118:=rfl
 have h157:((157:Nat):Int)=157:=rfl
 have h130:((130:Nat):Int)=130:=rfl
 have h39:((39:Nat):Int)=39:=rfl
 have h3':((3:Nat):Int)=3:=rfl
 obtain ⟨a',ha'⟩:=zoo h1 1
 obtain ⟨b',hb'⟩:=zeJ fs (1+3 * (a.length:Int))
 have m17:=e17 (k:=k+32) ha' hb' (by omega)
 rw [h133,h118] at m17
 obtain ⟨d',md,hd',hd1,hd2⟩:=znS ds y2 (1+3 * (a.length:Int)+(fs.length+zF fs:Nat))
 have m52:=e52 (k:=k+32) hd' (by omega) (by omega)
 rw [h157] at m52
 obtain ⟨c',hc'⟩:=zir q md
 obtain ⟨x',hx'⟩:=zeJ xs (md+q.length)
 have m30:=e30 (k:=k+32) hc' hx' (by omega) (by omega)
 rw [h3',h130] at m30
 obtain ⟨B',hB'⟩:=zmS B 1
 have m34:=e34 (k:=k+32) hB' (by omega)
 rw [h39] at m34
 have lB:=(zab zb5 hB').2
 rw [zA] at lB
 have t35:=c35 (k:=k+31) hB' (by omega) (by omega) (by omega) (fun r hr l e=>by
  obtain ⟨b,hb,rfl⟩:=List.mem_map.1 hr
  cases e
  rw [zl]
  have:=hB.short b hb
  omega) (by omega)
 exact zpc (C (k+33)) (k+33) t12 (zaC (by omega)) t44 (zaC (by omega)) t22 (zaC (by omega)) t14 F14x.1 F14x.2 t47 rfl t25 zpv zpw g1 r0 r1 g2 s0 s1
  (znT h1) (zdM fs) (zmI ds) (zmJ q) (zdM xs) (zfA B) t33 t16 t50 t28 m17 rfl rfl rfl m52 rfl rfl m30 rfl rfl rfl (by omega) m34 rfl rfl (by omega) t35
end Go.Proofs.YthicohakeljdcaaGreat.Q
namespace Go.Proofs
open Go Ovi Go.RowKit
def Kp (isn:Nat→Bool) (hs:List Value):Nat→List Value
 | 0=>[]
 | n+1=>Kp isn hs n++(if isn n then [] else [hs.getD n undef])
theorem zlP (isn:Nat→Bool) (hs:List Value):∀ n,(Kp isn hs n).length≤n
 | 0=>Nat.le_refl _
 | n+1=>by
  have:=zlP isn hs n
  simp only [Kp,List.length_append]
  split<;>simp<;>omega
theorem zoM {isn:Nat→Bool} {hs:List Value} {n:Nat} (h:isn n=false):Kp isn hs (n+1)=Kp isn hs n++[hs.getD n undef]:=by simp [Kp,h]
theorem znI {isn:Nat→Bool} {hs:List Value} {n:Nat} (h:isn n=true):Kp isn hs (n+1)=Kp isn hs n:=by simp [Kp,h]
theorem own_below' {w w':World} {B e size n:Nat} {v:Value} {xs:List Value} (h:w.ownsRow B e size v n xs) (hb:Below w.heap.size w w'):w'.ownsRow B e size v n xs:=by
 obtain ⟨h1,h2⟩:=h
 refine ⟨h1,?_⟩
 rcases h2 with h2 | ⟨g,cap,cur,k1,k2,k3,k4⟩
 ·exact .inl h2
 ·exact .inr ⟨g,cap,cur,k1,k2,(hb.block g (zV k3)).trans k3,k4⟩
theorem zkB {B:Nat} {w wr w':World} (hb:Below B w wr) (hB:B≤wr.heap.size) {row:Option Nat} (hr:∀ b,row=some b→B≤b) (hg:wr.grownBy w' row):Below B w w' :=
 hb.trans ⟨hg.os,hg.tape,hg.output,hg.size,fun k hk=>hg.block k (by omega) fun e=>by have:=hr k e.symm;omega⟩
theorem zmj {w:World} {B e size n:Nat} {v:Value} {xs:List Value} (h:w.ownsRow B e size v n xs):∀ b,v.ownBlock=some b→B≤b:=by
 intro b hb
 rcases h.2 with ⟨rfl,_⟩ | ⟨g,cap,cur,rfl,k2,_⟩
 ·cases hb
 ·cases hb;exact k2
theorem Tryz.info39:(Tryz.prog.info? 39).map (fun i=>(i.zero,i.size,i.bytes))=some (some (.slice none 0 0),1,24):=by kernel_rfl
set_option maxHeartbeats 4000000 in
set_option maxRecDepth 1000000 in
theorem Tryz.groundRows (b N cap:Nat) (hs:List Value) (isn:Nat→Bool) (w:World) (hlen:hs.length=N) (hcap:N≤cap) (hN:N≤1099511627776) (hb:b < w.heap.size) (hcell:∀ i v,hs[i]? = some v→w.cell? ⟨b,i,none⟩=some v) (h1:∀ v∈hs,∃ A n c,v=.slice A n c)
  (hcall:∀ (i:Nat) v,hs[i]? = some v→∀ W,Below w.heap.size w W→Calls Tryz.prog 163 #[v,.func (.func 182) #[] #[]] W fun e w'=>e=.returned (.bool (isn i))∧Below W.heap.size W w') :
  Calls Tryz.prog 110 #[.slice (some ⟨b,0,none⟩) N cap] w fun e w'=>∃ v,e=.returned v∧Below w.heap.size w w'∧w'.ownsRow w.heap.size 39 1 v (Kp isn hs N).length (Kp isn hs N):=by
 obtain ⟨i0,hi,hz0,hz1,hz2⟩:=info_parts Tryz.info39
 have HC:Aside (∀ (i:Nat) v,hs[i]? = some v→∀ W,Below w.heap.size w W→Calls Tryz.prog 163 #[v,.func (.func 182) #[] #[]] W fun e w'=>e=.returned (.bool (isn i))∧Below W.heap.size W w'):=hcall
 have HX:Aside (∀ i v,hs[i]? = some v→w.cell? ⟨b,i,none⟩=some v):=hcell
 clear hcall hcell
 go_enter Tryz.func110,Tryz.ntmps110
 go_wp2
 go_loopg [3,5,9] N (fun gk s3 s5 s9 wr=>∃ i:Nat,i≤N∧N - i≤gk∧s9=.int .i64 i∧wr.ownsRow w.heap.size 39 1 s3 (Kp isn hs i).length (Kp isn hs i)∧Below w.heap.size w wr)
 case atStart =>
  refine ⟨0,Nat.zero_le _,by omega,rfl,⟨rfl,.inr ⟨w.heap.size,0,#[],rfl,Nat.le_refl _,?_,Nat.le_refl _,Nat.zero_le _,rfl,rfl⟩⟩,(Below.refl _ w).alloc (Nat.le_refl _) _⟩
  exact heap_alloc_new w _
 case round =>
  obtain ⟨i,hi1,hg,rfl,hown,hbw⟩:=hrel
  by_cases hlt:i < N
  ·have hv:hs[i]? = some (hs.getD i undef):=by rw [List.getD_eq_getElem?_getD,List.getElem?_eq_getElem (by omega)];rfl
   have hcx:wr.cell? ⟨b,i,none⟩=some (hs.getD i undef):=(hbw.cell (by exact hb)).trans (HX.out i _ hv)
   have hcl:=HC.out i _ hv wr hbw
   have hbr:w.heap.size≤wr.heap.size:=hbw.size
   have hKl:=zlP isn hs i
   have KH:Aside (isn i=false→Kp isn hs (i+1)=Kp isn hs i++[hs.getD i undef]):=zoM
   have KM:Aside (isn i=true→Kp isn hs (i+1)=Kp isn hs i):=znI
   obtain ⟨A,n1,c1,hvs⟩:=h1 _ (List.mem_of_getElem? hv)
   rw [hvs] at hcx hcl KH
   clear hvs hv h1 HC HX
   generalize hK2:Kp isn hs (i+1)=K2 at KH KM
   have HK2:Hid (Kp isn hs (i+1)=K2):=hK2
   clear hK2
   generalize hK1:Kp isn hs i=K1 at *
   have HK:Hid (Kp isn hs i=K1):=hK1
   clear hK1
   go_wp2_with (first
    | (go_at_call 163;refine hcl.mono ?_;rintro e w1 ⟨rfl,hb1⟩;have hown1:=own_below' hown hb1;have hbw1:=hbw.trans (hb1.mono hbr);have hbr1:w.heap.size≤w1.heap.size:=Nat.le_trans hbr hb1.size;clear hown hbw hcl hcx hb1)
    | (at_builtin;refine wpList_append_own _ rfl _ _ 56 rfl w.heap.size 39 i0 (.slice none 0 0) 1 24 Tryz.underlying56 hi hz0 hz1 hz2 rfl (by decide) _ _ _ rfl (hown1.alloc _) ⟨w1.heap.size,0,none⟩ 1 1 [.slice A n1 c1] rfl rfl ?c1 ?c2 ?c3 ?c4 ?c5 ?_))
   case c1 =>
    intro j u hj
    match j,hj with
    | 0,hj=>simp at hj;subst hj;simp [Addr.add]
   case c2=>intro u hu;simp at hu;subst hu;rfl
   case c3=>unfold maxLen;omega
   case c4=>omega
   case c5=>simp;omega
   ·intro v' w2 hown' hgrow _
    have hno:(!isn i)=true:=by assumption
    have e2:=KH.out (by simpa using hno)
    have hb2:Below w.heap.size w w2:=zkB (hbw1.alloc hbr1 _) (by simp;omega) (zmj hown1) hgrow
    have hown2:w2.ownsRow w.heap.size 39 1 v' K2.length K2:=by rw [e2];simpa using hown'
    clear hown' hgrow hown1 hbw1 e2
    go_wp2
    go_roundg (N - i - 1)
    case measure=>omega
    case rel=>exact ⟨i+1,by omega,by omega,by go_num,by rw [HK2.out];exact hown2,hb2⟩
   ·have hno:(!isn i)=false:=by assumption
    have e2:=KM.out (by simpa using hno)
    go_roundg (N - i - 1)
    case measure=>omega
    case rel=>exact ⟨i+1,by omega,by omega,by go_num,by rw [HK2.out,e2];exact hown1,hbw1⟩
  ·obtain rfl:i=N:=by omega
   clear HC HX h1
   go_wp2
   go_ret
   exact ⟨_,rfl,hbw,hown⟩
end Go.Proofs
namespace Go.Proofs.YthicohakeljdcaaGreat.Q
open Go Ovi Go.RowKit Go.Proofs
variable {k:Nat}
theorem ok:zml Tryz.prog=true:=by kernel_rfl
theorem mixed:Tryz.prog.follows .mixedOrders=true:=by kernel_rfl
theorem bare (k:Nat):Sound Tryz.prog noG (C0 k):=ziK (zfC mixed) (zkf ok) (zlI _ _) k
theorem n182 (z:Int):C0 (k+1) 182 [.d (.int .i64 z)]=some [(false,[.d (.bool (Ovi.neg z))])]:=by
 have h:C0 (k+1) 182 [.d (.int .i64 z)]=zc3 P hs (C0 k) 182 k Tryz.f182 [.d (.int .i64 z)]:=by kernel_rfl
 rw [h]
 have h2:zc3 P hs (C0 k) 182 k Tryz.f182 [.d (.int .i64 z)]=some [(false,[.d (.bool (decide (z < 0)))])]:=by kernel_rfl
 exact h2
noncomputable def N220 (k n:Nat) (zs:Ovi.Rows) (len i:Int):Option Res:=zp P hs (C0 k) 220 k Tryz.f220 [1,0,1,0] [] n [(0,AV.d (D.list 1 zs)),(1,AV.d (D.fn 182 [])),(7,AV.d (D.int IntKind.i64 len)),(8,AV.d (D.int IntKind.i64 i))] []
theorem N220.succ (k n:Nat) (zs:Ovi.Rows) (len i:Int):N220 k (n+1) zs len i=ite' (decide (i < len)) (ite' (inR i (List.length zs)) (zf (zm IntKind.i64 zs i.toNat 0) fun n11=>za (C0 k 182 [AV.d (D.int IntKind.i64 n11)]) fun r12=>zi (resB 1 false 1 r12 0 0) fun b13=>ite' (b13) (some ([(false,[RL.d (D.int IntKind.i64 i)])])) (N220 k n zs len (IntKind.i64.wrap (i+(1:Int))))) (none)) (some ([(false,[RL.d (D.int IntKind.i64 (-1:Int))])])):=by kernel_rfl
theorem n163 (zs:List Int) (hk:zs.length < k) (hz:zs.length≤maxLen):C0 (k+3) 163 [.d (.list 1 (I1 zs)),.d (.fn 182 [])]=some [(false,[.d (.bool (zs.any Ovi.neg))])]:=by
 have h1:C0 (k+3) 163 [.d (.list 1 (I1 zs)),.d (.fn 182 [])]=za (C0 (k+2) 220 [.d (.list 1 (I1 zs)),.d (.fn 182 [])]) fun r5=>zf (resI IntKind.i64 1 false 1 r5 0 0) fun n6=>some ([(false,[RL.d (D.bool (decide (n6 ≥ (0:Int))))])]):=by kernel_rfl
 have h2:C0 (k+2) 220 [.d (.list 1 (I1 zs)),.d (.fn 182 [])]=N220 (k+1) (k+1) (I1 zs) ((List.length (I1 zs):Nat):Int) 0:=by kernel_rfl
 rw [h1,h2,zl]
 have:=zak (xs:=zs) (L:=fun n i=>N220 (k+1) n (I1 zs) (zs.length:Int) i) (stop:=fun _ x=>Ovi.neg x) (hit:=fun i=>some [(false,[.d (.int .i64 (i:Int))])]) (fin:=some [(false,[.d (.int .i64 (-1))])])
  (fun n i x hx=>by
   have hi:=(List.getElem?_eq_some_iff.1 hx).1
   rw [N220.succ,zl,ite'_t (lt_t hi),ite'_t (zn hi)]
   simp only [Int.toNat_natCast,zG (I1_get' hx),List.getElem?_cons_zero,Option.bind_some,zx,ze]
   rw [zy hi hz,n182,zj,zI,zu];rfl)
  (fun n=>by rw [N220.succ,ite'_f (lt_f (by omega))]) (k+1) (by omega)
 rcases this with ⟨i,x,hx,hst,e⟩ | ⟨hst,e⟩
 ·rw [show N220 (k+1) (k+1) (I1 zs) (zs.length:Int) 0=_ from e]
  simp only [zj,zw,ze]
  rw [List.any_eq_true.2 ⟨x,List.mem_of_getElem? hx,hst⟩]
  simp
 ·rw [show N220 (k+1) (k+1) (I1 zs) (zs.length:Int) 0=_ from e]
  simp only [zj,zw,ze]
  rw [List.any_eq_false.2 (fun x hx=>?_)]
  ·rfl
  ·obtain ⟨i,hi⟩:=List.mem_iff_getElem?.1 hx
   simpa using hst i x hi
theorem n110:za9 Tryz.prog hs (fun _=>none) 8 110 [.d (.list 1 [])]=some [(false,[.row 39 1 []])]:=by kernel_rfl
theorem zjC (isn:Nat→Bool) (hs:List Value):∀ n,Kp isn hs n=(zdV isn n).map fun i=>hs.getD i undef
 | 0=>rfl
 | n+1=>by
  unfold zdV
  rw [List.range_succ,List.filter_append,List.map_append,Kp,zjC isn hs n]
  congr 1
  cases h:isn n<;>simp [h]
theorem zmQ:PrimOk Tryz.prog noG 110 (zeL 39) where
 known:=⟨Tryz.f110,Tryz.func110,rfl,by kernel_rfl⟩
 plain:=fun args r hr=>by
  obtain ⟨⟨e0,l⟩,hra,hr⟩:=Option.bind_eq_some_iff.1 hr
  obtain ⟨_,_,rfl⟩:=zbf hra
  exact plain_raw'
 mark:=fun b k xs r hr=>by
  obtain ⟨q,h1,_⟩:=Option.bind_eq_some_iff.1 hr
  obtain ⟨e,xs',h2⟩:=zbf h1
  cases h2
 raw:=fun k e sz xs rest r hr e' he=>by
  obtain ⟨⟨e0,l⟩,hra,hr2⟩:=Option.bind_eq_some_iff.1 hr
  obtain ⟨rfl,rfl,rfl,h4,hlen,hlz⟩:=zdD hra
  simp only at h4 hlen hlz
  subst he h4
  simp only [] at hr2
  clear hr
  cases hb39:Nat.beq e0 39 with
  | false=>rw [hb39] at hr2;cases hr2
  | true =>
  obtain rfl:=Nat.eq_of_beq_eq_true hb39
  rw [hb39] at hr2
  cases hr2
  have hmax:(1099511627776:Nat)≤maxLen:=by decide
  refine Or.inr ⟨1,LL (grnd l),_,rfl,fun h=>?_,fun w S T mo u vs hS hT hrow hl=>?_⟩
  ·have:l=[]:=by simpa [LL] using h
   subst this;rfl
  obtain rfl:=zcs hl
  simp only [Array.append_empty]
  cases mo with
  | none =>
   obtain ⟨_,⟨_,A,rfl⟩,hn⟩:=hrow
   have hz:l=[]:=by simpa [LL] using hn
   subst hz
   refine ((bare 8).plain 110 _ _ n110 w S T #[.slice A 0 0] hS hT ⟨rfl,fun j a ha=>?_⟩ trivial).mono fun e w' ⟨v,S',mr,he,hb,hs1,_,hr,_⟩=>?_
   ·cases j with
    | zero=>cases ha;exact ⟨_,rfl,RD.nil A 1⟩
    | succ j=>simp at ha
   ·obtain ⟨⟨us,h1,h2,h3⟩,_⟩:=hr
    obtain ⟨u,hu,hone⟩:=h3 0 _ rfl
    simp only [List.length_cons,List.length_nil] at h2
    obtain ⟨u',rfl⟩:=List.length_eq_one_iff.1 h2
    simp only [List.getElem?_cons_zero,Option.some.injEq] at hu
    subst hu
    obtain ⟨x,hx,hrl⟩:=hone
    cases hx
    obtain ⟨z1,z2,z3⟩:rowC w' S' T w.heap.size (mr 0 0) 39 1 [] u':=hrl
    refine ⟨u',mr 0 0,by rw [he,h1],hb,fun b' hb'=>?_,⟨z1,z2,?_⟩,fun b cur b' cur' hb0=>by cases hb0⟩
    ·rw [hb'] at z3;exact z3.1
    ·cases hm:mr 0 0 with
     | none=>rfl
     | some b' =>
      rw [hm] at z3
      obtain ⟨y1,y2,cur,y3,y4,y5⟩:=z3
      exact ⟨Nat.zero_le _,fun h=>y2 (hs1 _ h),cur,y3,by simp [LL,grnd],fun i c x hx=>by simp [LL,grnd,zk] at hx⟩
  | some b =>
   obtain ⟨_,⟨cap,cur,rfl,hc,h1,h2,h3⟩,_,hnS,cur',hc',h5,h6⟩:=hrow
   rw [zA] at *
   rw [hc] at hc'
   cases hc'
   have hblk:b < w.heap.size:=zV hc
   have h1:l.length≤cap:=h1
   have h5':l.length * 1≤cur.size:=h5
   have hcell:∀ i zs,l[i]? = some zs→∃ v,cur[i]? = some v∧RD w S T v (.list 1 (I1 zs)):=fun i zs hz=>by
    obtain ⟨_,v,hv,hrd⟩:=h6 i 0 _ (zcn hz)
    rw [Nat.mul_one,Nat.add_zero] at hv
    exact ⟨v,hv,hrd⟩
   let hs0:List Value:=cur.toList.take l.length
   have hhs:∀ i,i < l.length→hs0[i]? = cur[i]? := fun i hi=>by
    show (cur.toList.take l.length)[i]? = _
    rw [List.getElem?_take_of_lt hi,Array.getElem?_toList]
   have hhl:hs0.length=l.length:=by
    show (cur.toList.take l.length).length=_
    have hcl:cur.toList.length=cur.size:=Array.length_toList
    rw [List.length_take]
    omega
   have hat:∀ i v,hs0[i]? = some v→∃ zs,l[i]? = some zs∧cur[i]? = some v∧RD w S T v (.list 1 (I1 zs)):=fun i v hv=>by
    have hi:i < l.length:=by rw [← hhl];exact (List.getElem?_eq_some_iff.1 hv).1
    obtain ⟨v',hv',hr'⟩:=hcell i _ (List.getElem?_eq_getElem hi)
    rw [hhs i hi] at hv
    rw [hv] at hv'
    cases hv'
    exact ⟨_,List.getElem?_eq_getElem hi,hv,hr'⟩
   have hcall:=Tryz.groundRows b l.length cap hs0 (fun i=>(l.getD i []).any Ovi.neg) w hhl h1 hlen hblk (fun i v hv=>by
     obtain ⟨zs,_,hv',_⟩:=hat i v hv
     simpa [World.cell?, hc] using hv') (fun v hv=>by
     obtain ⟨i,hi⟩:=List.mem_iff_getElem?.1 hv
     obtain ⟨zs,_,_,hr'⟩:=hat i v hi
     obtain ⟨A,c,hv',_⟩:RI w S v zs:=RD.ri hr'
     exact ⟨A,_,c,hv'⟩) (fun i v hv W hW=>by
     obtain ⟨zs,hz,_,hr'⟩:=hat i v hv
     have hzl:=hlz _ (List.mem_of_getElem? hz)
     have he:=n163 (k:=zs.length+1) zs (by omega) (by omega)
     have hg:l.getD i []=zs:=by rw [List.getD_eq_getElem?_getD,hz];rfl
     rw [hg]
     refine ((bare _).plain 163 _ _ he W S (fun _=>False) #[v,.func (.func 182) #[] #[]] (fun k hk=>Nat.lt_of_lt_of_le (hS k hk) hW.size) (fun _ h=>h.elim) ⟨rfl,fun j a ha=>?_⟩ trivial).mono fun e w' ⟨v',S',mr,he',hb',_,_,hr,_⟩=>?_
     ·match j,ha with
      | 0,ha =>
       cases ha
       have hx:RD W S T v (.list 1 (I1 zs)):=by
        obtain ⟨A,c,rfl,h⟩:RI w S v zs:=RD.ri hr'
        exact RI.rd (RI.stab ⟨A,c,rfl,h⟩ fun k hk=>hW.block k (hS k hk))
       exact ⟨v,rfl,hx.noFn rfl⟩
      | 1,ha=>cases ha;exact ⟨_,rfl,RD.fn 182 #[] [] (fun _ _=>undef) rfl (fun j xs h=>by simp at h) (fun j c x h=>by simp [zk] at h)⟩
      | j+2,ha=>simp at ha
     ·obtain ⟨⟨us,g1,g2,g3⟩,_⟩:=hr
      obtain ⟨u,hu,hone⟩:=g3 0 _ rfl
      simp only [List.length_cons,List.length_nil] at g2
      obtain ⟨u',rfl⟩:=List.length_eq_one_iff.1 g2
      simp only [List.getElem?_cons_zero,Option.some.injEq] at hu
      subst hu
      obtain ⟨x,hx,hrl⟩:=hone
      cases hx
      cases hrl
      exact ⟨by rw [he',g1],hb'⟩)
   rw [zjC] at hcall
   refine hcall.mono fun ex w' ⟨v,he,hb,hown⟩=>?_
   have hgl:(grnd l).length=(zdV (fun i=>(l.getD i []).any Ovi.neg) l.length).length:=by rw [zkW,List.length_map]
   generalize hI:zdV (fun i=>(l.getD i []).any Ovi.neg) l.length=I at hown hgl
   have hIn:I.Nodup:=by rw [← hI];exact zkG _ _
   have hIl:∀ i∈I,i < l.length:=fun i hi=>by rw [← hI] at hi;exact znd hi
   have hy:∀ j i,I[j]? = some i→(grnd l)[j]? = l[i]? := fun j i hj=>by
    have:=hIl i (List.mem_of_getElem? hj)
    rw [zkW,hI,List.getElem?_map,hj,List.getElem?_eq_getElem this]
    simp [List.getD_eq_getElem?_getD,this]
   rw [List.length_map] at hown
   obtain ⟨_,hown⟩:=hown
   rcases hown with ⟨rfl,h0⟩ | ⟨g,cap2,cur2,rfl,k2,k3,k4,k5,k6,k7⟩
   ·have h00:grnd l=[]:=List.eq_nil_of_length_eq_zero (by omega)
    exact ⟨_,none,he,hb,(fun b' hb'=>by cases hb'),⟨zcf _,⟨by rw [h00];rfl,none,rfl⟩,by rw [h00];rfl⟩,fun b0 cur0 b' cur' _ hb'=>by cases hb'⟩
   ·have hcur2:∀ j i,I[j]? = some i→cur2[j]? = cur[i]? := fun j i hj=>by
     have hjl:=(List.getElem?_eq_some_iff.1 hj).1
     have hi:=hIl i (List.mem_of_getElem? hj)
     have:=congrArg (fun z:List Value=>z[j]?) k7
     simp only [Nat.mul_one] at this
     rw [List.getElem?_take_of_lt (by omega),Array.getElem?_toList,List.getElem?_map,hj] at this
     rw [this,← hhs i hi,List.getElem?_eq_getElem (by omega)]
     simp [List.getD_eq_getElem?_getD,List.getElem?_eq_getElem (show i < hs0.length by omega)]
    have hidx:∀ j,j < (grnd l).length→∃ i,I[j]? = some i:=fun j hj=>⟨_,List.getElem?_eq_getElem (by omega)⟩
    refine ⟨_,some g,he,hb,fun b' hb'=>by cases hb';exact k2,⟨zcf _,?_,Nat.zero_le _,fun h=>by have:=hS g h;omega,cur2,k3,by rw [zA,hgl];omega,fun j c x hx=>?_⟩,?_⟩
    ·rw [zA,hgl]
     exact ⟨cap2,cur2,rfl,k3,k4,k5,k6⟩
    ·obtain ⟨rfl,zs,hz,rfl⟩:=zbt hx
     obtain ⟨i,hi⟩:=hidx j (List.getElem?_eq_some_iff.1 hz).1
     rw [hy j i hi] at hz
     obtain ⟨v0,hv0,hr0⟩:=hcell i zs hz
     refine ⟨rfl,v0,by rw [Nat.mul_one,Nat.add_zero,hcur2 j i hi];exact hv0,?_⟩
     exact hr0.mono (fun k hk=>hb.block k (hS k hk)) (fun k hk=>hb.block k (hT k hk)) (fun _ h=>h) fun _ h=>h
    ·intro b0 cur0 b1 cur1 hb0 hb1 hc0 hc1
     cases hb0
     cases hb1
     rw [hc] at hc0
     cases hc0
     rw [k3] at hc1
     cases hc1
     refine ⟨fun j=>I.getD j 0,fun j j' hj hj' he=>?_,fun j hj c x hx=>?_⟩
     ·rw [zA] at hj hj'
      obtain ⟨i,hi⟩:=hidx j hj
      obtain ⟨i',hi'⟩:=hidx j' hj'
      simp only [List.getD_eq_getElem?_getD,hi,hi',Option.getD_some] at he
      subst he
      exact (List.getElem?_inj (by omega) hIn).1 (hi.trans hi'.symm)
     ·obtain ⟨rfl,zs,hz,rfl⟩:=zbt hx
      rw [zA] at hj
      obtain ⟨i,hi⟩:=hidx j hj
      simp only [List.getD_eq_getElem?_getD,hi,Option.getD_some]
      rw [hy j i hi] at hz
      exact ⟨zcn hz,.inl (by rw [Nat.mul_one,Nat.add_zero,Nat.mul_one,Nat.add_zero];exact hcur2 j i hi)⟩
end Go.Proofs.YthicohakeljdcaaGreat.Q

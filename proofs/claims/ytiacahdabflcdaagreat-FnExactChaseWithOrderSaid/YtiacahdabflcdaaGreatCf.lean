/-
Towards the law: a machine that runs the program's own code on plain data, its soundness, the library by its contracts, and what the functions compute: part 6. No condition.
-/
import Derived.Test.YtiacahdabflcdaaGreatProg
import Derived.Test.YtiacahdabflcdaaGreatCc
import Derived.Shelf.RegionOpenPlain
import Derived.Deep.LoopGhost
import Derived.WalkKit
import Derived.KernelRfl
import Derived.Shelf.Small.Wraps
import Derived.Shelf.Sort.Plain
import Derived.Shelf.Bits.Mul64
import Derived.Shelf.Slices.Equal
import Derived.Ground.Names2Prog
import Derived.Shelf.Slices.Clone
import Derived.Shelf.Slices.CompactI
import Derived.Shelf.Slices.Empties2
import Derived.Ground.SlsfProg
import Derived.Shelf.SlSortCmp.Whole1
import Derived.Ground.SlgnProg
import Derived.Shelf.SlicesE.Clone
import Derived.Shelf.SlSortCmp.WholeK
import Derived.Shelf.Spec.SlicesInsert
import Derived.Lib.SlicesCompact
import Derived.Laws.CopyRow
import Derived.Lib.Walk
import Derived.Shelf.SlSortCmp.KitK
import Derived.Shelf.GgSortFunc.Compose
import Derived.Sort.WalkA
import Derived.Sort.WalkC
import Derived.Sort.WalkB12
import Derived.Deep.QuietTactic
import Derived.BigQuiet
import Derived.BigRegion
import Derived.Shelf.SlicesE.Kit
import Derived.Test.YtiacahdabflcdaaGreatCe
set_option linter.unusedVariables false
set_option linter.unusedSimpArgs false
namespace Go.Proofs
open Go.Shelf Go.RowKit Go.Lib Ovi
set_option maxHeartbeats 4000000 in
set_option maxRecDepth 1000000 in
theorem Tryz.mIntS:ListC Tryz.prog 19 1 (zO zaT):=by
 intro w v xs B n k xs' k' hd hf hr hm hk hk2 hB
 rcases Fo.rows hd hf hr with ⟨rfl,A,cap,rfl⟩ | ⟨b,cap,e,g,rfl,hle,hcap,hBb,hgB,hrow⟩
 ·cases hm
  go_enter Tryz.func19,Tryz.ntmps19
  go_wp2
  go_loopg [1,5] 0 (fun g s1 s5 wr=>s1=.int .i64 k∧s5=.int .i64 0∧wr=w)
  case atStart=>exact ⟨rfl,rfl,rfl⟩
  case round =>
   obtain ⟨rfl,rfl,rfl⟩:=hrel
   go_wp2
   go_ret
   exact ⟨rfl,Ovi.But.refl _ _,hr,_,hd,hf⟩
 ·have hcap':=hcap
  unfold maxLen at hcap'
  have hl:=(zU zaY hm).2
  generalize hN:xs.length=N at *
  go_enter Tryz.func19,Tryz.ntmps19
  go_wp2
  go_loopg [1,5] N (fun gk s1 s5 wr=>∃ (i:Nat) (ys:Ovi.Rows) (k1:Int),i≤N∧N - i≤gk∧s5=.int .i64 i∧s1=.int .i64 k1∧mkN zaT i xs k=some (ys,k1)∧Ovi.But B w wr∧RowG wr NT b cap e 1 ys g)
  case atStart=>exact ⟨0,xs,k,by omega,by omega,rfl,rfl,rfl,Ovi.But.refl _ _,hrow⟩
  case round =>
   obtain ⟨i,ys,k1,hi,hg,rfl,rfl,hmk,hbut0,hrow0⟩:=hrel
   by_cases hlt:i < N
   ·obtain ⟨r,r',k2,hyr,hst,hmk2,b1,b2,b3,_⟩:=zcC zaY hm hmk (by omega)
    obtain ⟨z0,rfl,rfl,rfl⟩:=zdH hst
    have hx0_0:zk ys i 0=some (.int .i64 z0):=by simp [zk,hyr]
    obtain ⟨u0,hc0,hf0,_⟩:=hrow0.at hx0_0
    have hrow1:=hrow0.set (fun h=>h) hx0_0 (v:=.int .i64 k1) (d:=.int .i64 k1) rfl (.int _ _)
    have hbut1:Ovi.But B w ((wr).setCell ⟨b,i * 1+0,none⟩ (.int .i64 k1)):=hbut0.trans (Ovi.But.setCell hBb)
    simp only [Nat.mul_one,Nat.add_zero] at hc0 hf0 hrow1 hbut1
    go_wp2
    go_roundg (N - i - 1)
    case measure=>omega
    case rel=>exact ⟨i+1,_,(k1+1),by omega,by omega,by go_num,by first | rfl | go_num,hmk2,hbut1,by rw [zaS hyr] at hrow1;simpa using hrow1⟩
   ·obtain rfl:i=N:=by omega
    go_wp2
    go_ret
    rw [← hN] at hmk
    have he:some (ys,k1)=some (xs',k'):=hmk.symm.trans hm
    cases he
    obtain ⟨q1,q2⟩:=hrow0.forest hcap hBb hgB
    rw [hl] at q1 q2
    exact ⟨rfl,hbut0,q1,q2⟩
set_option maxHeartbeats 4000000 in
set_option maxRecDepth 1000000 in
theorem Tryz.mFactS:ListC Tryz.prog 50 2 (zO zad):=by
 intro w v xs B n k xs' k' hd hf hr hm hk hk2 hB
 rcases Fo.rows hd hf hr with ⟨rfl,A,cap,rfl⟩ | ⟨b,cap,e,g,rfl,hle,hcap,hBb,hgB,hrow⟩
 ·cases hm
  go_enter Tryz.func50,Tryz.ntmps50
  go_wp2
  go_loopg [1,5] 0 (fun g s1 s5 wr=>s1=.int .i64 k∧s5=.int .i64 0∧wr=w)
  case atStart=>exact ⟨rfl,rfl,rfl⟩
  case round =>
   obtain ⟨rfl,rfl,rfl⟩:=hrel
   go_wp2
   go_ret
   exact ⟨rfl,Ovi.But.refl _ _,hr,_,hd,hf⟩
 ·have hcap':=hcap
  unfold maxLen at hcap'
  have hl:=(zU zW hm).2
  generalize hN:xs.length=N at *
  go_enter Tryz.func50,Tryz.ntmps50
  go_wp2
  go_loopg [1,5] N (fun gk s1 s5 wr=>∃ (i:Nat) (ys:Ovi.Rows) (k1:Int),i≤N∧N - i≤gk∧s5=.int .i64 i∧s1=.int .i64 k1∧mkN zad i xs k=some (ys,k1)∧Ovi.But B w wr∧RowG wr NT b cap e 2 ys g)
  case atStart=>exact ⟨0,xs,k,by omega,by omega,rfl,rfl,rfl,Ovi.But.refl _ _,hrow⟩
  case round =>
   obtain ⟨i,ys,k1,hi,hg,rfl,rfl,hmk,hbut0,hrow0⟩:=hrel
   by_cases hlt:i < N
   ·obtain ⟨r,r',k2,hyr,hst,hmk2,b1,b2,b3,_⟩:=zcC zW hm hmk (by omega)
    obtain ⟨z0,l1,l1',rfl,hl1,rfl⟩:=zbk hst
    have hx0_0:zk ys i 0=some (.int .i64 z0):=by simp [zk,hyr]
    have hx1_0:zk ys i 1=some (.list 1 l1):=by simp [zk,hyr]
    have hup1:=(zU zaY hl1).1
    obtain ⟨u0,hc0,hf0,_⟩:=hrow0.at hx0_0
    have hrow1:=hrow0.set (fun h=>h) hx0_0 (v:=.int .i64 k1) (d:=.int .i64 k1) rfl (.int _ _)
    have hbut1:Ovi.But B w ((wr).setCell ⟨b,i * 2+0,none⟩ (.int .i64 k1)):=hbut0.trans (Ovi.But.setCell hBb)
    have hx1_1:=zao (d:=.int .i64 k1) hx1_0 (by decide:1≠0)
    obtain ⟨u1,hc1,hf1,hr1,n1,hd1,ho1⟩:=hrow1.at hx1_1
    have hglt1:∀ j c' k,g j c' k→k < ((wr).setCell ⟨b,i * 2+0,none⟩ (.int .i64 k1)).heap.size:=fun j c' k hk=>Nat.lt_of_lt_of_le (hB k (hgB j c' k hk)) hbut1.size
    have hcall1:=Tryz.mIntS _ u1 l1 (g i 1) n1 (k1+1) l1' k2 hd1 ho1 hr1 hl1 (by omega) (by omega) (fun k hk=>hglt1 i 1 k hk)
    simp only [Nat.mul_one,Nat.add_zero] at hc0 hf0 hrow1 hbut1 hc1 hf1 hcall1 hglt1
    go_wp2_with (
     go_at_call 19
     refine hcall1.mono ?_
     rintro ex1 w1 ⟨rfl,hbc1,hrr1,nn1,hdd1,hoo1⟩
     have hrow2:=hrow1.call (fun k hk=>hk.elim) hx1_1 (by omega) hc1 hbc1 hglt1 hrr1 hdd1 hoo1
     have hbut2:=hbut1.trans (hbc1.mono fun k hk=>hgB i 1 k hk))
    go_roundg (N - i - 1)
    case measure=>omega
    case rel=>exact ⟨i+1,_,k2,by omega,by omega,by go_num,by first | rfl | go_num,hmk2,hbut2,by rw [zaS hyr,zaS (za8 hyr)] at hrow2;simpa using hrow2⟩
   ·obtain rfl:i=N:=by omega
    go_wp2
    go_ret
    rw [← hN] at hmk
    have he:some (ys,k1)=some (xs',k'):=hmk.symm.trans hm
    cases he
    obtain ⟨q1,q2⟩:=hrow0.forest hcap hBb hgB
    rw [hl] at q1 q2
    exact ⟨rfl,hbut0,q1,q2⟩
set_option maxHeartbeats 4000000 in
set_option maxRecDepth 1000000 in
theorem Tryz.mAtomS:ListC Tryz.prog 51 2 (zO zad):=by
 intro w v xs B n k xs' k' hd hf hr hm hk hk2 hB
 rcases Fo.rows hd hf hr with ⟨rfl,A,cap,rfl⟩ | ⟨b,cap,e,g,rfl,hle,hcap,hBb,hgB,hrow⟩
 ·cases hm
  go_enter Tryz.func51,Tryz.ntmps51
  go_wp2
  go_loopg [1,5] 0 (fun g s1 s5 wr=>s1=.int .i64 k∧s5=.int .i64 0∧wr=w)
  case atStart=>exact ⟨rfl,rfl,rfl⟩
  case round =>
   obtain ⟨rfl,rfl,rfl⟩:=hrel
   go_wp2
   go_ret
   exact ⟨rfl,Ovi.But.refl _ _,hr,_,hd,hf⟩
 ·have hcap':=hcap
  unfold maxLen at hcap'
  have hl:=(zU zW hm).2
  generalize hN:xs.length=N at *
  go_enter Tryz.func51,Tryz.ntmps51
  go_wp2
  go_loopg [1,5] N (fun gk s1 s5 wr=>∃ (i:Nat) (ys:Ovi.Rows) (k1:Int),i≤N∧N - i≤gk∧s5=.int .i64 i∧s1=.int .i64 k1∧mkN zad i xs k=some (ys,k1)∧Ovi.But B w wr∧RowG wr NT b cap e 2 ys g)
  case atStart=>exact ⟨0,xs,k,by omega,by omega,rfl,rfl,rfl,Ovi.But.refl _ _,hrow⟩
  case round =>
   obtain ⟨i,ys,k1,hi,hg,rfl,rfl,hmk,hbut0,hrow0⟩:=hrel
   by_cases hlt:i < N
   ·obtain ⟨r,r',k2,hyr,hst,hmk2,b1,b2,b3,_⟩:=zcC zW hm hmk (by omega)
    obtain ⟨z0,l1,l1',rfl,hl1,rfl⟩:=zbk hst
    have hx0_0:zk ys i 0=some (.int .i64 z0):=by simp [zk,hyr]
    have hx1_0:zk ys i 1=some (.list 1 l1):=by simp [zk,hyr]
    have hup1:=(zU zaY hl1).1
    obtain ⟨u0,hc0,hf0,_⟩:=hrow0.at hx0_0
    have hrow1:=hrow0.set (fun h=>h) hx0_0 (v:=.int .i64 k1) (d:=.int .i64 k1) rfl (.int _ _)
    have hbut1:Ovi.But B w ((wr).setCell ⟨b,i * 2+0,none⟩ (.int .i64 k1)):=hbut0.trans (Ovi.But.setCell hBb)
    have hx1_1:=zao (d:=.int .i64 k1) hx1_0 (by decide:1≠0)
    obtain ⟨u1,hc1,hf1,hr1,n1,hd1,ho1⟩:=hrow1.at hx1_1
    have hglt1:∀ j c' k,g j c' k→k < ((wr).setCell ⟨b,i * 2+0,none⟩ (.int .i64 k1)).heap.size:=fun j c' k hk=>Nat.lt_of_lt_of_le (hB k (hgB j c' k hk)) hbut1.size
    have hcall1:=Tryz.mIntS _ u1 l1 (g i 1) n1 (k1+1) l1' k2 hd1 ho1 hr1 hl1 (by omega) (by omega) (fun k hk=>hglt1 i 1 k hk)
    simp only [Nat.mul_one,Nat.add_zero] at hc0 hf0 hrow1 hbut1 hc1 hf1 hcall1 hglt1
    go_wp2_with (
     go_at_call 19
     refine hcall1.mono ?_
     rintro ex1 w1 ⟨rfl,hbc1,hrr1,nn1,hdd1,hoo1⟩
     have hrow2:=hrow1.call (fun k hk=>hk.elim) hx1_1 (by omega) hc1 hbc1 hglt1 hrr1 hdd1 hoo1
     have hbut2:=hbut1.trans (hbc1.mono fun k hk=>hgB i 1 k hk))
    go_roundg (N - i - 1)
    case measure=>omega
    case rel=>exact ⟨i+1,_,k2,by omega,by omega,by go_num,by first | rfl | go_num,hmk2,hbut2,by rw [zaS hyr,zaS (za8 hyr)] at hrow2;simpa using hrow2⟩
   ·obtain rfl:i=N:=by omega
    go_wp2
    go_ret
    rw [← hN] at hmk
    have he:some (ys,k1)=some (xs',k'):=hmk.symm.trans hm
    cases he
    obtain ⟨q1,q2⟩:=hrow0.forest hcap hBb hgB
    rw [hl] at q1 q2
    exact ⟨rfl,hbut0,q1,q2⟩
set_option maxHeartbeats 4000000 in
set_option maxRecDepth 1000000 in
theorem Tryz.mRelationS {mt:Int→List UInt8} (ht:∀ (w:World) (k:Int),0≤k→k≤4611686018427387904→Calls Tryz.prog 97 #[.int .i64 k] w fun e w'=>e=.returned (.string ⟨(mt k).toArray⟩)∧Below w.heap.size w w'):ListC Tryz.prog 49 3 (zO (zaP mt)):=by
 intro w v xs B n k xs' k' hd hf hr hm hk hk2 hB
 rcases Fo.rows hd hf hr with ⟨rfl,A,cap,rfl⟩ | ⟨b,cap,e,g,rfl,hle,hcap,hBb,hgB,hrow⟩
 ·cases hm
  go_enter Tryz.func49,Tryz.ntmps49
  go_wp2
  go_loopg [1,5] 0 (fun g s1 s5 wr=>s1=.int .i64 k∧s5=.int .i64 0∧wr=w)
  case atStart=>exact ⟨rfl,rfl,rfl⟩
  case round =>
   obtain ⟨rfl,rfl,rfl⟩:=hrel
   go_wp2
   go_ret
   exact ⟨rfl,Ovi.But.refl _ _,hr,_,hd,hf⟩
 ·have hcap':=hcap
  unfold maxLen at hcap'
  have hl:=(zU zaZ hm).2
  generalize hN:xs.length=N at *
  go_enter Tryz.func49,Tryz.ntmps49
  go_wp2
  go_loopg [1,5] N (fun gk s1 s5 wr=>∃ (i:Nat) (ys:Ovi.Rows) (k1:Int),i≤N∧N - i≤gk∧s5=.int .i64 i∧s1=.int .i64 k1∧mkN (zaP mt) i xs k=some (ys,k1)∧Ovi.But B w wr∧RowG wr NT b cap e 3 ys g)
  case atStart=>exact ⟨0,xs,k,by omega,by omega,rfl,rfl,rfl,Ovi.But.refl _ _,hrow⟩
  case round =>
   obtain ⟨i,ys,k1,hi,hg,rfl,rfl,hmk,hbut0,hrow0⟩:=hrel
   by_cases hlt:i < N
   ·obtain ⟨r,r',k2,hyr,hst,hmk2,b1,b2,b3,_⟩:=zcC zaZ hm hmk (by omega)
    obtain ⟨s0,z1,t2,rfl,rfl,rfl⟩:=zdI hst
    have hx0_0:zk ys i 0=some (.str s0):=by simp [zk,hyr]
    have hx1_0:zk ys i 1=some (.int .i64 z1):=by simp [zk,hyr]
    have hx2_0:zk ys i 2=some (.bool t2):=by simp [zk,hyr]
    have ht0:=ht (wr) k1 (by omega) (by omega)
    go_wp2_with (
     go_at_call 97
     refine ht0.mono ?_
     rintro ex0 w0 ⟨rfl,hbel0⟩
     have hbut1:=hbut0.trans (Ovi.But.of_below hbel0)
     have hrow1:=hrow0.world (w':=w0) (fun k hk=>hk.elim) (hbel0.block _ hrow0.lt) (fun j c' k hk=>hbel0.block _ (Nat.lt_of_lt_of_le (hB k (hgB j c' k hk)) hbut0.size))
     obtain ⟨u0,hc0,hf0,_⟩:=hrow1.at hx0_0
     have hrow2:=hrow1.set (fun h=>h) hx0_0 (v:=.string ⟨(mt k1).toArray⟩) (d:=.str (mt k1)) rfl (by have:=RD.str (w:=w0) (S:=NT) (T:=NT) ⟨(mt k1).toArray⟩;simpa using this)
     have hbut2:Ovi.But B w ((w0).setCell ⟨b,i * 3+0,none⟩ (.string ⟨(mt k1).toArray⟩)):=hbut1.trans (Ovi.But.setCell hBb)
     have hx1_1:=zao (d:=.str (mt k1)) hx1_0 (by decide:1≠0)
     have hx2_1:=zao (d:=.str (mt k1)) hx2_0 (by decide:2≠0)
     obtain ⟨u1,hc1,hf1,_⟩:=hrow2.at hx1_1
     have hrow3:=hrow2.set (fun h=>h) hx1_1 (v:=.int .i64 (k1+1)) (d:=.int .i64 (k1+1)) rfl (.int _ _)
     have hbut3:Ovi.But B w (((w0).setCell ⟨b,i * 3+0,none⟩ (.string ⟨(mt k1).toArray⟩)).setCell ⟨b,i * 3+1,none⟩ (.int .i64 (k1+1))):=hbut2.trans (Ovi.But.setCell hBb)
     have hx2_2:=zao (d:=.int .i64 (k1+1)) hx2_1 (by decide:2≠1)
     obtain ⟨u2,hc2,hf2,_⟩:=hrow3.at hx2_2
     have hrow4:=hrow3.set (fun h=>h) hx2_2 (v:=.bool ((k1+1+1) % 3==0)) (d:=.bool ((k1+1+1) % 3==0)) rfl (.bool _)
     have hbut4:Ovi.But B w ((((w0).setCell ⟨b,i * 3+0,none⟩ (.string ⟨(mt k1).toArray⟩)).setCell ⟨b,i * 3+1,none⟩ (.int .i64 (k1+1))).setCell ⟨b,i * 3+2,none⟩ (.bool ((k1+1+1) % 3==0))):=hbut3.trans (Ovi.But.setCell hBb)
     simp only [Nat.mul_one,Nat.add_zero] at hc0 hf0 hrow2 hbut2 hc1 hf1 hrow3 hbut3 hc2 hf2 hrow4 hbut4)
    go_roundg (N - i - 1)
    case measure=>omega
    case rel=>exact ⟨i+1,_,(k1+1+1+1),by omega,by omega,by go_num,by first | rfl | go_num,hmk2,hbut4,by rw [zaS hyr,zaS (za8 hyr),zaS (za8 (za8 hyr))] at hrow4;simpa using hrow4⟩
   ·obtain rfl:i=N:=by omega
    go_wp2
    go_ret
    rw [← hN] at hmk
    have he:some (ys,k1)=some (xs',k'):=hmk.symm.trans hm
    cases he
    obtain ⟨q1,q2⟩:=hrow0.forest hcap hBb hgB
    rw [hl] at q1 q2
    exact ⟨rfl,hbut0,q1,q2⟩
set_option maxHeartbeats 4000000 in
set_option maxRecDepth 1000000 in
theorem Tryz.mInstance {mt:Int→List UInt8} (ht:∀ (w:World) (k:Int),0≤k→k≤4611686018427387904→Calls Tryz.prog 97 #[.int .i64 k] w fun e w'=>e=.returned (.string ⟨(mt k).toArray⟩)∧Below w.heap.size w w'):AggC Tryz.prog 17 (zaO mt):=by
 intro w us ds G k ds' k' hsz hcells hdis hlt hm hk hk2
 obtain ⟨x0,x1,y0,k1,y1,rfl,h1,h2,rfl⟩:=zc0 hm
 have up1:=(zU zaZ h1).1
 have up2:=(zU zW h2).1
 obtain ⟨u0,hu0,c0⟩:=hcells 0 _ rfl
 obtain ⟨u1,hu1,c1⟩:=hcells 1 _ rfl
 have hus:us=#[u0,u1]:=by
  apply Array.ext_getElem?
  intro i
  match i with
  | 0=>exact hu0
  | 1=>exact hu1
  | i+2=>rw [Array.getElem?_eq_none (by rw [hsz];simp),Array.getElem?_eq_none (by simp)]
 subst hus
 have hb0:Ovi.But (fun _=>False) w (w.alloc (.cells #[u0,u1] 33 (0,0))):=Ovi.But.of_below ((Below.refl _ w).alloc (Nat.le_refl _) _)
 have hnew:∀ c k,G c k→k≠w.heap.size:=fun c k hk he=>by have:=hlt c k hk;omega
 have c0:CellF (w.alloc (.cells #[u0,u1] 33 (0,0))) (G 0) u0 _:=CellF.but c0 hb0 (hlt 0) (fun _ _ h=>h)
 have c1:CellF (w.alloc (.cells #[u0,u1] 33 (0,0))) (G 1) u1 _:=CellF.but c1 hb0 (hlt 1) (fun _ _ h=>h)
 have hlt1:∀ c b,G c b→b < (w.alloc (.cells #[u0,u1] 33 (0,0))).heap.size:=fun c b hb=>Nat.lt_of_lt_of_le (hlt c b hb) hb0.size
 have l0:(w.alloc (.cells #[u0,u1] 33 (0,0))).cell? ⟨w.heap.size,0,none⟩=some u0:=zaW w _ _ rfl
 have l1:(w.alloc (.cells #[u0,u1] 33 (0,0))).cell? ⟨w.heap.size,1,none⟩=some u1:=zaW w _ _ rfl
 obtain ⟨r0,n0,d0,f0⟩:=c0
 have hcall0:=Tryz.mRelationS ht _ u0 x0 (G 0) n0 k y0 k1 d0 f0 r0 h1 hk (by omega) (hlt1 0)
 clear ht
 go_enter Tryz.func17,Tryz.ntmps17
 go_wp2_with (
  go_at_call 49
  refine hcall0.mono ?_
  rintro e1 w1 ⟨rfl,b1,r1,n1,d1,f1⟩
  have l1':=b1.cell (fun h=>hnew _ _ h rfl) l1
  have c1':=c1.but b1 (hlt1 1) (fun k h h'=>absurd (hdis _ _ _ h h') (by decide))
  obtain ⟨r2,n2,d2,f2⟩:=c1'
  have hlt2:∀ c b,G c b→b < w1.heap.size:=fun c b hb=>Nat.lt_of_lt_of_le (hlt1 c b hb) b1.size
  have hcall1:=Tryz.mFactS _ u1 x1 (G 1) n2 k1 y1 k' d2 f2 r2 h2 (by omega) hk2 (hlt2 1))
 refine hcall1.mono ?_
 rintro e2 w2 ⟨rfl,b2,r3,n3,d3,f3⟩
 go_wp2
 go_ret
 have c0'':=CellF.but (B:=G 0) ⟨r1,n1,d1,f1⟩ b2 (hlt2 0) (fun k h h'=>absurd (hdis _ _ _ h h') (by decide))
 refine ⟨rfl,((hb0.mono fun _ h=>h.elim).trans (b1.mono fun k h=>⟨0,h⟩)).trans (b2.mono fun k h=>⟨1,h⟩),fun c x hx=>?_⟩
 match c,hx with
 | 0,hx=>cases hx;exact ⟨u0,rfl,c0''⟩
 | 1,hx=>cases hx;exact ⟨u1,rfl,r3,n3,d3,f3⟩
 | c+2,hx=>simp at hx
set_option maxHeartbeats 4000000 in
set_option maxRecDepth 1000000 in
theorem Tryz.mStepS:ListC Tryz.prog 52 2 (zO zad):=by
 intro w v xs B n k xs' k' hd hf hr hm hk hk2 hB
 rcases Fo.rows hd hf hr with ⟨rfl,A,cap,rfl⟩ | ⟨b,cap,e,g,rfl,hle,hcap,hBb,hgB,hrow⟩
 ·cases hm
  go_enter Tryz.func52,Tryz.ntmps52
  go_wp2
  go_loopg [1,5] 0 (fun g s1 s5 wr=>s1=.int .i64 k∧s5=.int .i64 0∧wr=w)
  case atStart=>exact ⟨rfl,rfl,rfl⟩
  case round =>
   obtain ⟨rfl,rfl,rfl⟩:=hrel
   go_wp2
   go_ret
   exact ⟨rfl,Ovi.But.refl _ _,hr,_,hd,hf⟩
 ·have hcap':=hcap
  unfold maxLen at hcap'
  have hl:=(zU zW hm).2
  generalize hN:xs.length=N at *
  go_enter Tryz.func52,Tryz.ntmps52
  go_wp2
  go_loopg [1,5] N (fun gk s1 s5 wr=>∃ (i:Nat) (ys:Ovi.Rows) (k1:Int),i≤N∧N - i≤gk∧s5=.int .i64 i∧s1=.int .i64 k1∧mkN zad i xs k=some (ys,k1)∧Ovi.But B w wr∧RowG wr NT b cap e 2 ys g)
  case atStart=>exact ⟨0,xs,k,by omega,by omega,rfl,rfl,rfl,Ovi.But.refl _ _,hrow⟩
  case round =>
   obtain ⟨i,ys,k1,hi,hg,rfl,rfl,hmk,hbut0,hrow0⟩:=hrel
   by_cases hlt:i < N
   ·obtain ⟨r,r',k2,hyr,hst,hmk2,b1,b2,b3,_⟩:=zcC zW hm hmk (by omega)
    obtain ⟨z0,l1,l1',rfl,hl1,rfl⟩:=zbk hst
    have hx0_0:zk ys i 0=some (.int .i64 z0):=by simp [zk,hyr]
    have hx1_0:zk ys i 1=some (.list 1 l1):=by simp [zk,hyr]
    have hup1:=(zU zaY hl1).1
    obtain ⟨u0,hc0,hf0,_⟩:=hrow0.at hx0_0
    have hrow1:=hrow0.set (fun h=>h) hx0_0 (v:=.int .i64 k1) (d:=.int .i64 k1) rfl (.int _ _)
    have hbut1:Ovi.But B w ((wr).setCell ⟨b,i * 2+0,none⟩ (.int .i64 k1)):=hbut0.trans (Ovi.But.setCell hBb)
    have hx1_1:=zao (d:=.int .i64 k1) hx1_0 (by decide:1≠0)
    obtain ⟨u1,hc1,hf1,hr1,n1,hd1,ho1⟩:=hrow1.at hx1_1
    have hglt1:∀ j c' k,g j c' k→k < ((wr).setCell ⟨b,i * 2+0,none⟩ (.int .i64 k1)).heap.size:=fun j c' k hk=>Nat.lt_of_lt_of_le (hB k (hgB j c' k hk)) hbut1.size
    have hcall1:=Tryz.mIntS _ u1 l1 (g i 1) n1 (k1+1) l1' k2 hd1 ho1 hr1 hl1 (by omega) (by omega) (fun k hk=>hglt1 i 1 k hk)
    simp only [Nat.mul_one,Nat.add_zero] at hc0 hf0 hrow1 hbut1 hc1 hf1 hcall1 hglt1
    go_wp2_with (
     go_at_call 19
     refine hcall1.mono ?_
     rintro ex1 w1 ⟨rfl,hbc1,hrr1,nn1,hdd1,hoo1⟩
     have hrow2:=hrow1.call (fun k hk=>hk.elim) hx1_1 (by omega) hc1 hbc1 hglt1 hrr1 hdd1 hoo1
     have hbut2:=hbut1.trans (hbc1.mono fun k hk=>hgB i 1 k hk))
    go_roundg (N - i - 1)
    case measure=>omega
    case rel=>exact ⟨i+1,_,k2,by omega,by omega,by go_num,by first | rfl | go_num,hmk2,hbut2,by rw [zaS hyr,zaS (za8 hyr)] at hrow2;simpa using hrow2⟩
   ·obtain rfl:i=N:=by omega
    go_wp2
    go_ret
    rw [← hN] at hmk
    have he:some (ys,k1)=some (xs',k'):=hmk.symm.trans hm
    cases he
    obtain ⟨q1,q2⟩:=hrow0.forest hcap hBb hgB
    rw [hl] at q1 q2
    exact ⟨rfl,hbut0,q1,q2⟩
set_option maxHeartbeats 4000000 in
set_option maxRecDepth 1000000 in
theorem Tryz.mDepS:ListC Tryz.prog 18 5 (zO zbd):=by
 intro w v xs B n k xs' k' hd hf hr hm hk hk2 hB
 rcases Fo.rows hd hf hr with ⟨rfl,A,cap,rfl⟩ | ⟨b,cap,e,g,rfl,hle,hcap,hBb,hgB,hrow⟩
 ·cases hm
  go_enter Tryz.func18,Tryz.ntmps18
  go_wp2
  go_loopg [1,5] 0 (fun g s1 s5 wr=>s1=.int .i64 k∧s5=.int .i64 0∧wr=w)
  case atStart=>exact ⟨rfl,rfl,rfl⟩
  case round =>
   obtain ⟨rfl,rfl,rfl⟩:=hrel
   go_wp2
   go_ret
   exact ⟨rfl,Ovi.But.refl _ _,hr,_,hd,hf⟩
 ·have hcap':=hcap
  unfold maxLen at hcap'
  have hl:=(zU zh2 hm).2
  generalize hN:xs.length=N at *
  go_enter Tryz.func18,Tryz.ntmps18
  go_wp2
  go_loopg [1,5] N (fun gk s1 s5 wr=>∃ (i:Nat) (ys:Ovi.Rows) (k1:Int),i≤N∧N - i≤gk∧s5=.int .i64 i∧s1=.int .i64 k1∧mkN zbd i xs k=some (ys,k1)∧Ovi.But B w wr∧RowG wr NT b cap e 5 ys g)
  case atStart=>exact ⟨0,xs,k,by omega,by omega,rfl,rfl,rfl,Ovi.But.refl _ _,hrow⟩
  case round =>
   obtain ⟨i,ys,k1,hi,hg,rfl,rfl,hmk,hbut0,hrow0⟩:=hrel
   by_cases hlt:i < N
   ·obtain ⟨r,r',k2,hyr,hst,hmk2,b1,b2,b3,_⟩:=zcC zh2 hm hmk (by omega)
    obtain ⟨l0,l1,t2,z3,z4,l0',m1,l1',m2,rfl,hl0,hl1,rfl,rfl⟩:=zfU hst
    have hx0_0:zk ys i 0=some (.list 2 l0):=by simp [zk,hyr]
    have hx1_0:zk ys i 1=some (.list 2 l1):=by simp [zk,hyr]
    have hx2_0:zk ys i 2=some (.bool t2):=by simp [zk,hyr]
    have hx3_0:zk ys i 3=some (.int .i64 z3):=by simp [zk,hyr]
    have hx4_0:zk ys i 4=some (.int .i64 z4):=by simp [zk,hyr]
    have hup0:=(zU zW hl0).1
    have hup1:=(zU zW hl1).1
    obtain ⟨u0,hc0,hf0,hr0,n0,hd0,ho0⟩:=hrow0.at hx0_0
    have hglt0:∀ j c' k,g j c' k→k < (wr).heap.size:=fun j c' k hk=>Nat.lt_of_lt_of_le (hB k (hgB j c' k hk)) hbut0.size
    have hcall0:=Tryz.mAtomS _ u0 l0 (g i 0) n0 k1 l0' m1 hd0 ho0 hr0 hl0 (by omega) (by omega) (fun k hk=>hglt0 i 0 k hk)
    simp only [Nat.mul_one,Nat.add_zero] at hc0 hf0 hcall0 hglt0
    go_wp2_with (
     go_at_call 51
     refine hcall0.mono ?_
     clear hcall0
     rintro ex0 w0 ⟨rfl,hbc0,hrr0,nn0,hdd0,hoo0⟩
     have hrow1:=hrow0.call (fun k hk=>hk.elim) hx0_0 (by omega) hc0 hbc0 hglt0 hrr0 hdd0 hoo0
     have hbut1:=hbut0.trans (hbc0.mono fun k hk=>hgB i 0 k hk)
     have hx1_1:=zao (d:=.list 2 l0') hx1_0 (by decide:1≠0)
     have hx2_1:=zao (d:=.list 2 l0') hx2_0 (by decide:2≠0)
     have hx3_1:=zao (d:=.list 2 l0') hx3_0 (by decide:3≠0)
     have hx4_1:=zao (d:=.list 2 l0') hx4_0 (by decide:4≠0)
     obtain ⟨u1,hc1,hf1,hr1,n1,hd1,ho1⟩:=hrow1.at hx1_1
     have hglt1:∀ j c' k,g j c' k→k < (w0).heap.size:=fun j c' k hk=>Nat.lt_of_lt_of_le (hB k (hgB j c' k hk)) hbut1.size
     have hcall1:=Tryz.mAtomS _ u1 l1 (g i 1) n1 m1 l1' m2 hd1 ho1 hr1 hl1 (by omega) (by omega) (fun k hk=>hglt1 i 1 k hk)
     try simp only [Nat.mul_one,Nat.add_zero] at hc1 hf1 hcall1 hglt1)
    go_wp2_with (
     go_at_call 51
     refine hcall1.mono ?_
     clear hcall1
     rintro ex1 w1 ⟨rfl,hbc1,hrr1,nn1,hdd1,hoo1⟩
     have hrow2:=hrow1.call (fun k hk=>hk.elim) hx1_1 (by omega) hc1 hbc1 hglt1 hrr1 hdd1 hoo1
     have hbut2:=hbut1.trans (hbc1.mono fun k hk=>hgB i 1 k hk)
     have hx2_2:=zao (d:=.list 2 l1') hx2_1 (by decide:2≠1)
     have hx3_2:=zao (d:=.list 2 l1') hx3_1 (by decide:3≠1)
     have hx4_2:=zao (d:=.list 2 l1') hx4_1 (by decide:4≠1)
     obtain ⟨u2,hc2,hf2,_⟩:=hrow2.at hx2_2
     have hrow3:=hrow2.set (fun h=>h) hx2_2 (v:=.bool (m2 % 3==0)) (d:=.bool (m2 % 3==0)) rfl (.bool _)
     have hbut3:Ovi.But B w ((w1).setCell ⟨b,i * 5+2,none⟩ (.bool (m2 % 3==0))):=hbut2.trans (Ovi.But.setCell hBb)
     have hx3_3:=zao (d:=.bool (m2 % 3==0)) hx3_2 (by decide:3≠2)
     have hx4_3:=zao (d:=.bool (m2 % 3==0)) hx4_2 (by decide:4≠2)
     obtain ⟨u3,hc3,hf3,_⟩:=hrow3.at hx3_3
     have hrow4:=hrow3.set (fun h=>h) hx3_3 (v:=.int .i64 (m2+1)) (d:=.int .i64 (m2+1)) rfl (.int _ _)
     have hbut4:Ovi.But B w (((w1).setCell ⟨b,i * 5+2,none⟩ (.bool (m2 % 3==0))).setCell ⟨b,i * 5+3,none⟩ (.int .i64 (m2+1))):=hbut3.trans (Ovi.But.setCell hBb)
     have hx4_4:=zao (d:=.int .i64 (m2+1)) hx4_3 (by decide:4≠3)
     obtain ⟨u4,hc4,hf4,_⟩:=hrow4.at hx4_4
     have hrow5:=hrow4.set (fun h=>h) hx4_4 (v:=.int .i64 (m2+1+1)) (d:=.int .i64 (m2+1+1)) rfl (.int _ _)
     have hbut5:Ovi.But B w ((((w1).setCell ⟨b,i * 5+2,none⟩ (.bool (m2 % 3==0))).setCell ⟨b,i * 5+3,none⟩ (.int .i64 (m2+1))).setCell ⟨b,i * 5+4,none⟩ (.int .i64 (m2+1+1))):=hbut4.trans (Ovi.But.setCell hBb)
     try simp only [Nat.mul_one,Nat.add_zero] at hc2 hf2 hrow3 hbut3 hc3 hf3 hrow4 hbut4 hc4 hf4 hrow5 hbut5)
    go_roundg (N - i - 1)
    case measure=>omega
    case rel=>exact ⟨i+1,_,(m2+1+1+1),by omega,by omega,by go_num,by first | rfl | go_num,hmk2,hbut5,by rw [zaS hyr,zaS (za8 hyr),zaS (za8 (za8 hyr)),zaS (za8 (za8 (za8 hyr))),zaS (za8 (za8 (za8 (za8 hyr))))] at hrow5;simpa using hrow5⟩
   ·obtain rfl:i=N:=by omega
    go_wp2
    go_ret
    rw [← hN] at hmk
    have he:some (ys,k1)=some (xs',k'):=hmk.symm.trans hm
    cases he
    obtain ⟨q1,q2⟩:=hrow0.forest hcap hBb hgB
    rw [hl] at q1 q2
    exact ⟨rfl,hbut0,q1,q2⟩
end Go.Proofs
namespace Go.Proofs
open Go Ovi Go.RowKit
set_option maxHeartbeats 4000000 in
set_option maxRecDepth 1000000 in
theorem Tryz.mResult {mt:Int→List UInt8} (ht:∀ (w:World) (k:Int),0≤k→k≤4611686018427387904→Calls Tryz.prog 97 #[.int .i64 k] w fun e w'=>e=.returned (.string ⟨(mt k).toArray⟩)∧Below w.heap.size w w'):AggC Tryz.prog 20 (zbO mt):=by
 intro w us ds G k ds' k' hsz hcells hdis hlt hm hk hk2
 obtain ⟨x0,x1,z2,x3,y0,ka,y1,k1,y3,rfl,h1a,h1b,h1,h2,rfl⟩:=zfV hm
 have up0:=(zU zaZ h1a).1
 have up0':=(zU zW h1b).1
 have up2:=(zU zW h2).1
 obtain ⟨u0,hu0,c0⟩:=hcells 0 _ rfl
 obtain ⟨u1,hu1,c1⟩:=hcells 1 _ rfl
 obtain ⟨u2,hu2,c2⟩:=hcells 2 _ rfl
 obtain ⟨u3,hu3,c3⟩:=hcells 3 _ rfl
 have hus:us=#[u0,u1,u2,u3]:=by
  apply Array.ext_getElem?
  intro i
  match i with
  | 0=>exact hu0
  | 1=>exact hu1
  | 2=>exact hu2
  | 3=>exact hu3
  | i+4=>rw [Array.getElem?_eq_none (by rw [hsz];simp),Array.getElem?_eq_none (by simp)]
 subst hus
 have hb0:Ovi.But (fun _=>False) w (w.alloc (.cells #[u0,u1,u2,u3] 36 (0,0))):=Ovi.But.of_below ((Below.refl _ w).alloc (Nat.le_refl _) _)
 have hnew:∀ c k,G c k→k≠w.heap.size:=fun c k hk he=>by have:=hlt c k hk;omega
 have c0:CellF (w.alloc (.cells #[u0,u1,u2,u3] 36 (0,0))) (G 0) u0 _:=CellF.but c0 hb0 (hlt 0) (fun _ _ h=>h)
 have c1:CellF (w.alloc (.cells #[u0,u1,u2,u3] 36 (0,0))) (G 1) u1 _:=CellF.but c1 hb0 (hlt 1) (fun _ _ h=>h)
 have c2:CellF (w.alloc (.cells #[u0,u1,u2,u3] 36 (0,0))) (G 2) u2 _:=CellF.but c2 hb0 (hlt 2) (fun _ _ h=>h)
 have c3:CellF (w.alloc (.cells #[u0,u1,u2,u3] 36 (0,0))) (G 3) u3 _:=CellF.but c3 hb0 (hlt 3) (fun _ _ h=>h)
 have hlt1:∀ c b,G c b→b < (w.alloc (.cells #[u0,u1,u2,u3] 36 (0,0))).heap.size:=fun c b hb=>Nat.lt_of_lt_of_le (hlt c b hb) hb0.size
 have l0:(w.alloc (.cells #[u0,u1,u2,u3] 36 (0,0))).cell? ⟨w.heap.size,0,none⟩=some u0:=zaW w _ _ rfl
 have l1:(w.alloc (.cells #[u0,u1,u2,u3] 36 (0,0))).cell? ⟨w.heap.size,1,none⟩=some u1:=zaW w _ _ rfl
 have l3:(w.alloc (.cells #[u0,u1,u2,u3] 36 (0,0))).cell? ⟨w.heap.size,3,none⟩=some u3:=zaW w _ _ rfl
 have hcall0:=Tryz.mInstance ht (w.alloc (.cells #[u0,u1,u2,u3] 36 (0,0))) #[u0,u1] [.list 3 x0,.list 2 x1] (fun c k=>c < 2∧G c k) k [.list 3 y0,.list 2 y1] k1 rfl (fun c x hx=>by
  match c,hx with
  | 0,hx=>cases hx;exact ⟨u0,rfl,CellF.sub c0 fun k hk=>⟨by decide,hk⟩⟩
  | 1,hx=>cases hx;exact ⟨u1,rfl,CellF.sub c1 fun k hk=>⟨by decide,hk⟩⟩
  | c+2,hx=>simp at hx) (fun c c' k h h'=>hdis c c' k h.2 h'.2) (fun c b h=>hlt1 c b h.2) h1 hk (by omega)
 clear ht
 go_enter Tryz.func20,Tryz.ntmps20
 go_wp2_with (
  go_at_call 17
  refine hcall0.mono ?_
  rintro e1 w1 ⟨rfl,b1,r1⟩
  have l3':=b1.cell (fun ⟨c,_,h⟩=>hnew _ _ h rfl) l3
  have c2':=c2.but b1 (hlt1 2) (fun k h ⟨c,hc,h'⟩=>by have:=hdis _ _ _ h h';omega)
  have c3':=c3.but b1 (hlt1 3) (fun k h ⟨c,hc,h'⟩=>by have:=hdis _ _ _ h h';omega)
  obtain ⟨r2,n2,d2,f2⟩:=c3'
  have hlt2:∀ c b,G c b→b < w1.heap.size:=fun c b hb=>Nat.lt_of_lt_of_le (hlt1 c b hb) b1.size
  have hcall1:=Tryz.mStepS _ u3 x3 (G 3) n2 k1 y3 k' d2 f2 r2 h2 (by omega) hk2 (hlt2 3))
 refine hcall1.mono ?_
 rintro e2 w2 ⟨rfl,b2,r3,n3,d3,f3⟩
 go_wp2
 go_ret
 refine ⟨rfl,((hb0.mono fun _ h=>h.elim).trans (b1.mono fun k ⟨c,_,h⟩=>⟨c,h⟩)).trans (b2.mono fun k h=>⟨3,h⟩),fun c x hx=>?_⟩
 match c,hx with
 | 0,hx =>
  obtain ⟨q,hq,hc⟩:=r1 0 x hx
  cases hq
  exact ⟨u0,rfl,CellF.but (CellF.sub hc fun k hk=>hk.2) b2 (hlt2 0) (fun k h h'=>absurd (hdis _ _ _ h h') (by decide))⟩
 | 1,hx =>
  obtain ⟨q,hq,hc⟩:=r1 1 x hx
  cases hq
  exact ⟨u1,rfl,CellF.but (CellF.sub hc fun k hk=>hk.2) b2 (hlt2 1) (fun k h h'=>absurd (hdis _ _ _ h h') (by decide))⟩
 | 2,hx=>cases hx;exact ⟨u2,rfl,CellF.but c2' b2 (hlt2 2) (fun k h h'=>absurd (hdis _ _ _ h h') (by decide))⟩
 | 3,hx=>cases hx;exact ⟨u3,rfl,r3,n3,d3,f3⟩
 | c+4,hx=>simp at hx
end Go.Proofs
namespace Go.Proofs
open Go.Shelf
def Tryz.lays122_ren:Go.Shelf.Ren:=⟨fun | 122=>133 | 215=>175 | n=>n,fun | 3=>3 | 4=>4 | n=>n,fun | n=>n⟩
theorem Tryz.lays122:Go.Proofs.Lays.n122 Tryz.prog Tryz.lays122_ren:={
 mixed:=by kernel_rfl
 f122:=Tryz.func133.trans (congrArg some (by kernel_rfl))
 f215:=Tryz.func175.trans (congrArg some (by kernel_rfl))
 t3:=Tryz.underlying3
 a3:=Tryz.isAgg3
 z3:=Tryz.sizeOf3
 v3:=Tryz.zeroValue3
 t4:=Tryz.underlying4
 a4:=Tryz.isAgg4
 z4:=Tryz.sizeOf4
 v4:=Tryz.zeroValue4 }
def Tryz.lays189_ren:Go.Shelf.Ren:=⟨fun | 189=>176 | 125=>166 | 257=>207 | 128=>200 | 129=>201 | 294=>230 | 295=>231 | 296=>232 | 297=>233 | 298=>234 | 299=>235 | 216=>236 | 300=>237 | 301=>238 | 328=>246 | 329=>225 | 330=>226 | 331=>247 | 332=>248 | 215=>175 | 343=>252 | n=>n,fun | 28=>27 | 3=>3 | 46=>180 | 0=>0 | 51=>203 | 53=>205 | 4=>4 | 183=>197 | 182=>196 | 131=>149 | 5=>5 | 9=>9 | 218=>220 | 222=>224 | 228=>239 | 229=>240 | n=>n,fun | n=>n⟩
theorem Tryz.lays189:Go.Proofs.Lays.n189 Tryz.prog Tryz.lays189_ren:={
 mixed:=by kernel_rfl
 f125:=Tryz.func166.trans (congrArg some (by kernel_rfl))
 f128:=Tryz.func200.trans (congrArg some (by kernel_rfl))
 f129:=Tryz.func201.trans (congrArg some (by kernel_rfl))
 f189:=Tryz.func176.trans (congrArg some (by kernel_rfl))
 f215:=Tryz.func175.trans (congrArg some (by kernel_rfl))
 f216:=Tryz.func236.trans (congrArg some (by kernel_rfl))
 f257:=Tryz.func207.trans (congrArg some (by kernel_rfl))
 f294:=Tryz.func230.trans (congrArg some (by kernel_rfl))
 f295:=Tryz.func231.trans (congrArg some (by kernel_rfl))
 f296:=Tryz.func232.trans (congrArg some (by kernel_rfl))
 f297:=Tryz.func233.trans (congrArg some (by kernel_rfl))
 f298:=Tryz.func234.trans (congrArg some (by kernel_rfl))
 f299:=Tryz.func235.trans (congrArg some (by kernel_rfl))
 f300:=Tryz.func237.trans (congrArg some (by kernel_rfl))
 f301:=Tryz.func238.trans (congrArg some (by kernel_rfl))
 f328:=Tryz.func246.trans (congrArg some (by kernel_rfl))
 f329:=Tryz.func225.trans (congrArg some (by kernel_rfl))
 f330:=Tryz.func226.trans (congrArg some (by kernel_rfl))
 f331:=Tryz.func247.trans (congrArg some (by kernel_rfl))
 f332:=Tryz.func248.trans (congrArg some (by kernel_rfl))
 f343:=Tryz.func252.trans (congrArg some (by kernel_rfl))
 t0:=Tryz.underlying0
 a0:=Tryz.isAgg0
 z0:=Tryz.sizeOf0
 v0:=Tryz.zeroValue0
 t3:=Tryz.underlying3
 a3:=Tryz.isAgg3
 z3:=Tryz.sizeOf3
 v3:=Tryz.zeroValue3
 t4:=Tryz.underlying4
 a4:=Tryz.isAgg4
 z4:=Tryz.sizeOf4
 v4:=Tryz.zeroValue4
 t5:=Tryz.underlying5
 a5:=Tryz.isAgg5
 z5:=Tryz.sizeOf5
 v5:=Tryz.zeroValue5
 t9:=Tryz.underlying9
 a9:=Tryz.isAgg9
 z9:=Tryz.sizeOf9
 v9:=Tryz.zeroValue9
 t28:=Tryz.underlying27
 a28:=Tryz.isAgg27
 z28:=Tryz.sizeOf27
 v28:=Tryz.zeroValue27
 t46:=Tryz.underlying180
 a46:=Tryz.isAgg180
 z46:=Tryz.sizeOf180
 v46:=Tryz.zeroValue180
 t51:=Tryz.underlying203
 a51:=Tryz.isAgg203
 z51:=Tryz.sizeOf203
 v51:=Tryz.zeroValue203
 t53:=Tryz.underlying205
 a53:=Tryz.isAgg205
 z53:=Tryz.sizeOf205
 v53:=Tryz.zeroValue205
 t131:=Tryz.underlying149
 a131:=Tryz.isAgg149
 z131:=Tryz.sizeOf149
 v131:=Tryz.zeroValue149
 t182:=Tryz.underlying196
 a182:=Tryz.isAgg196
 z182:=Tryz.sizeOf196
 v182:=Tryz.zeroValue196
 t183:=Tryz.underlying197
 a183:=Tryz.isAgg197
 z183:=Tryz.sizeOf197
 v183:=Tryz.zeroValue197
 t218:=Tryz.underlying220
 a218:=Tryz.isAgg220
 z218:=Tryz.sizeOf220
 v218:=Tryz.zeroValue220
 t222:=Tryz.underlying224
 a222:=Tryz.isAgg224
 z222:=Tryz.sizeOf224
 v222:=Tryz.zeroValue224
 t228:=Tryz.underlying239
 a228:=Tryz.isAgg239
 z228:=Tryz.sizeOf239
 v228:=Tryz.zeroValue239
 t229:=Tryz.underlying240
 a229:=Tryz.isAgg240
 z229:=Tryz.sizeOf240
 v229:=Tryz.zeroValue240 }
def Tryz.lays212_ren:Go.Shelf.Ren:=⟨fun | 212=>239 | 263=>249 | 264=>250 | n=>n,fun | 46=>180 | 51=>203 | 146=>244 | 53=>205 | 148=>246 | n=>n,fun | n=>n⟩
theorem Tryz.lays212:Go.Proofs.Lays.n212 Tryz.prog Tryz.lays212_ren:={
 mixed:=by kernel_rfl
 f212:=Tryz.func239.trans (congrArg some (by kernel_rfl))
 f263:=Tryz.func249.trans (congrArg some (by kernel_rfl))
 f264:=Tryz.func250.trans (congrArg some (by kernel_rfl))
 t46:=Tryz.underlying180
 a46:=Tryz.isAgg180
 z46:=Tryz.sizeOf180
 v46:=Tryz.zeroValue180
 t51:=Tryz.underlying203
 a51:=Tryz.isAgg203
 z51:=Tryz.sizeOf203
 v51:=Tryz.zeroValue203
 t53:=Tryz.underlying205
 a53:=Tryz.isAgg205
 z53:=Tryz.sizeOf205
 v53:=Tryz.zeroValue205
 t146:=Tryz.underlying244
 a146:=Tryz.isAgg244
 z146:=Tryz.sizeOf244
 v146:=Tryz.zeroValue244
 t148:=Tryz.underlying246
 a148:=Tryz.isAgg246
 z148:=Tryz.sizeOf246
 v148:=Tryz.zeroValue246 }
def Tryz.laysNm215_ren:Go.Shelf.Ren:=⟨fun | 15=>87 | n=>n,fun | 22=>27 | 3=>3 | 4=>4 | n=>n,fun | n=>n⟩
theorem Tryz.laysNm215:Go.Proofs.Lays2.n15 Tryz.prog Tryz.laysNm215_ren:={
 mixed:=by kernel_rfl
 f15:=Tryz.func87.trans (congrArg some (by kernel_rfl))
 t3:=Tryz.underlying3
 a3:=Tryz.isAgg3
 z3:=Tryz.sizeOf3
 v3:=Tryz.zeroValue3
 t4:=Tryz.underlying4
 a4:=Tryz.isAgg4
 z4:=Tryz.sizeOf4
 v4:=Tryz.zeroValue4
 t22:=Tryz.underlying27
 a22:=Tryz.isAgg27
 z22:=Tryz.sizeOf27
 v22:=Tryz.zeroValue27
 i3:=by kernel_rfl }
def Tryz.laysNm220_ren:Go.Shelf.Ren:=⟨fun | 20=>177 | n=>n,fun | 22=>27 | 3=>3 | 4=>4 | 0=>0 | n=>n,fun | n=>n⟩
theorem Tryz.laysNm220:Go.Proofs.Lays2.n20 Tryz.prog Tryz.laysNm220_ren:={
 mixed:=by kernel_rfl
 f20:=Tryz.func177.trans (congrArg some (by kernel_rfl))
 t0:=Tryz.underlying0
 a0:=Tryz.isAgg0
 z0:=Tryz.sizeOf0
 v0:=Tryz.zeroValue0
 t3:=Tryz.underlying3
 a3:=Tryz.isAgg3
 z3:=Tryz.sizeOf3
 v3:=Tryz.zeroValue3
 t4:=Tryz.underlying4
 a4:=Tryz.isAgg4
 z4:=Tryz.sizeOf4
 v4:=Tryz.zeroValue4
 t22:=Tryz.underlying27
 a22:=Tryz.isAgg27
 z22:=Tryz.sizeOf27
 v22:=Tryz.zeroValue27
 i3:=by kernel_rfl }
def Tryz.laysSlE041_f166_ren:Go.Shelf.Ren:=⟨fun | 41=>82 | n=>n,fun | 22=>30 | 23=>112 | 4=>4 | n=>n,fun | n=>n⟩
theorem Tryz.laysSlE041_f166:Go.Proofs.SlLaysE0.n41 Tryz.prog Tryz.laysSlE041_f166_ren:={
 mixed:=by kernel_rfl
 f41:=⟨Tryz.f82.name,by decide,Tryz.func82.trans (congrArg some (by kernel_rfl))⟩
 t4:=Tryz.underlying4
 a4:=Tryz.isAgg4
 z4:=Tryz.sizeOf4
 v4:=Tryz.zeroValue4
 t22:=Tryz.underlying30
 a22:=Tryz.isAgg30
 z22:=Tryz.sizeOf30
 v22:=Tryz.zeroValue30 }
def Tryz.laysSlF06_f168_ren:Go.Shelf.Ren:=⟨fun | 6=>150 | 15=>166 | 14=>189 | 28=>200 | 29=>201 | 20=>216 | 21=>217 | 22=>218 | 23=>219 | 24=>220 | 25=>221 | 26=>222 | 27=>223 | 46=>242 | 47=>225 | 48=>226 | 49=>243 | 50=>244 | 57=>251 | n=>n,fun | 22=>31 | 24=>114 | 25=>119 | 3=>3 | 39=>180 | 0=>0 | 53=>203 | 55=>205 | 4=>4 | 46=>197 | 45=>196 | 50=>149 | 5=>5 | 9=>9 | 66=>220 | 70=>224 | 76=>239 | 77=>240 | n=>n,fun | n=>n⟩
theorem Tryz.laysSlF06_f168:Go.Proofs.SlLaysF0.n6 Tryz.prog Tryz.laysSlF06_f168_ren:={
 mixed:=by kernel_rfl
 f6:=⟨Tryz.f150.name,by decide,Tryz.func150.trans (congrArg some (by kernel_rfl))⟩
 f14:=⟨Tryz.f189.name,by decide,Tryz.func189.trans (congrArg some (by kernel_rfl))⟩
 f15:=Tryz.func166.trans (congrArg some (by kernel_rfl))
 f20:=⟨Tryz.f216.name,by decide,Tryz.func216.trans (congrArg some (by kernel_rfl))⟩
 f21:=⟨Tryz.f217.name,by decide,Tryz.func217.trans (congrArg some (by kernel_rfl))⟩
 f22:=⟨Tryz.f218.name,by decide,Tryz.func218.trans (congrArg some (by kernel_rfl))⟩
 f23:=⟨Tryz.f219.name,by decide,Tryz.func219.trans (congrArg some (by kernel_rfl))⟩
 f24:=⟨Tryz.f220.name,by decide,Tryz.func220.trans (congrArg some (by kernel_rfl))⟩
 f25:=⟨Tryz.f221.name,by decide,Tryz.func221.trans (congrArg some (by kernel_rfl))⟩
 f26:=⟨Tryz.f222.name,by decide,Tryz.func222.trans (congrArg some (by kernel_rfl))⟩
 f27:=⟨Tryz.f223.name,by decide,Tryz.func223.trans (congrArg some (by kernel_rfl))⟩
 f28:=Tryz.func200.trans (congrArg some (by kernel_rfl))
 f29:=Tryz.func201.trans (congrArg some (by kernel_rfl))
 f46:=⟨Tryz.f242.name,by decide,Tryz.func242.trans (congrArg some (by kernel_rfl))⟩
 f47:=Tryz.func225.trans (congrArg some (by kernel_rfl))
 f48:=Tryz.func226.trans (congrArg some (by kernel_rfl))
 f49:=⟨Tryz.f243.name,by decide,Tryz.func243.trans (congrArg some (by kernel_rfl))⟩
 f50:=⟨Tryz.f244.name,by decide,Tryz.func244.trans (congrArg some (by kernel_rfl))⟩
 f57:=⟨Tryz.f251.name,by decide,Tryz.func251.trans (congrArg some (by kernel_rfl))⟩
 t0:=Tryz.underlying0
 a0:=Tryz.isAgg0
 z0:=Tryz.sizeOf0
 v0:=Tryz.zeroValue0
 t3:=Tryz.underlying3
 a3:=Tryz.isAgg3
 z3:=Tryz.sizeOf3
 v3:=Tryz.zeroValue3
 t4:=Tryz.underlying4
 a4:=Tryz.isAgg4
 z4:=Tryz.sizeOf4
 v4:=Tryz.zeroValue4
 t5:=Tryz.underlying5
 a5:=Tryz.isAgg5
 z5:=Tryz.sizeOf5
 v5:=Tryz.zeroValue5
 t9:=Tryz.underlying9
 a9:=Tryz.isAgg9
 z9:=Tryz.sizeOf9
 v9:=Tryz.zeroValue9
 t22:=Tryz.underlying31
 a22:=Tryz.isAgg31
 z22:=Tryz.sizeOf31
 v22:=Tryz.zeroValue31
 t25:=Tryz.underlying119
 a25:=Tryz.isAgg119
 z25:=Tryz.sizeOf119
 v25:=Tryz.zeroValue119
 t39:=Tryz.underlying180
 a39:=Tryz.isAgg180
 z39:=Tryz.sizeOf180
 v39:=Tryz.zeroValue180
 t45:=Tryz.underlying196
 a45:=Tryz.isAgg196
 z45:=Tryz.sizeOf196
 v45:=Tryz.zeroValue196
 t46:=Tryz.underlying197
 a46:=Tryz.isAgg197
 z46:=Tryz.sizeOf197
 v46:=Tryz.zeroValue197
 t50:=Tryz.underlying149
 a50:=Tryz.isAgg149
 z50:=Tryz.sizeOf149
 v50:=Tryz.zeroValue149
 t53:=Tryz.underlying203
 a53:=Tryz.isAgg203
 z53:=Tryz.sizeOf203
 v53:=Tryz.zeroValue203
 t55:=Tryz.underlying205
 a55:=Tryz.isAgg205
 z55:=Tryz.sizeOf205
 v55:=Tryz.zeroValue205
 t66:=Tryz.underlying220
 a66:=Tryz.isAgg220
 z66:=Tryz.sizeOf220
 v66:=Tryz.zeroValue220
 t70:=Tryz.underlying224
 a70:=Tryz.isAgg224
 z70:=Tryz.sizeOf224
 v70:=Tryz.zeroValue224
 t76:=Tryz.underlying239
 a76:=Tryz.isAgg239
 z76:=Tryz.sizeOf239
 v76:=Tryz.zeroValue239
 t77:=Tryz.underlying240
 a77:=Tryz.isAgg240
 z77:=Tryz.sizeOf240
 v77:=Tryz.zeroValue240 }
end Go.Proofs
namespace Go.Proofs
open Go.Shelf Go.RowKit Go.Lib Go.Sort
theorem zjz (w:World) (q:Nat) (c c':Array Value) (t:TypeId):((w.alloc (.cells c t (0,0))).drewN q).setRow w.heap.size c'=(w.alloc (.cells c' t (0,0))).drewN q:=by
 unfold World.setRow World.alloc World.drewN
 simp only [World.mk.injEq,and_true,true_and]
 apply Array.ext_getElem?
 intro i
 rw [Array.getElem?_modify,Array.getElem?_push,Array.getElem?_push]
 by_cases h:i=w.heap.size
 ·subst h;simp
 ·rw [if_neg (fun e=>h e.symm),if_neg h,if_neg h]
def rep5 (n:Nat):Array Value:=((List.replicate n (Value.int .i64 10))++(List.replicate (5 - n) (Value.int .i64 0))).toArray
theorem zl6 {n:Nat} (h:n≤5):(rep5 n).size=5:=by simp [rep5];omega
theorem zl5 {w:World} {n q j:Nat} (h:j < n) (hn:n≤5):((w.alloc (.cells (rep5 n) 3 (0,0))).drewN q).cell? ⟨w.heap.size,j,none⟩=some (.int .i64 10):=by
 have hg:(w.alloc (.cells (rep5 n) 3 (0,0))).heap[w.heap.size]? = some (.cells (rep5 n) 3 (0,0)):=by
  show (w.heap.push _)[w.heap.size]? = _
  simp
 simp only [World.cell?, World.heap_drewN,hg,Option.isSome_none,Bool.false_eq_true,if_false]
 unfold rep5
 rw [List.getElem?_toArray,List.getElem?_append_left (by simpa using h),List.getElem?_replicate,if_pos h]
theorem ziX (w:World) (n m q:Nat) (a:Addr) (sl sc dc:Nat) (ty:TypeId) (hn:n+m≤5) (hm:Nat.min sl (5 - n)=m) (ha:∀ j,j < m→((w.alloc (.cells (rep5 n) 3 (0,0))).drewN q).cell? (a.add j)=some (.int .i64 10)) :
  (Builtin.copy_ #[27,27] ty #[.slice (some ⟨w.heap.size,n,none⟩) (5 - n) dc,.slice (some a) sl sc]).run Tryz.prog ((w.alloc (.cells (rep5 n) 3 (0,0))).drewN q)=.ok (goInt m) ((w.alloc (.cells (rep5 (n+m)) 3 (0,0))).drewN q):=by
 have:=run_copy_row (P:=Tryz.prog) ((w.alloc (.cells (rep5 n) 3 (0,0))).drewN q) 27 27 ty 3 w.heap.size n (5 - n) dc a sl sc (rep5 n) 3 (List.replicate m (.int .i64 10)) (by kernel_rfl) (by kernel_rfl) (by show (w.heap.push _)[w.heap.size]? = _;simp) (by rw [List.length_replicate,hm])
  (fun j v hj=>by
   obtain ⟨h1,h2⟩:=List.getElem?_eq_some_iff.1 hj
   rw [List.length_replicate] at h1
   rw [ha j h1,← h2];simp) (by rw [List.length_replicate,zl6 (by omega)];omega) (fun v hv=>by rw [List.eq_of_mem_replicate hv];rfl)
 have e:((rep5 n).toList.take n++List.replicate m (Value.int .i64 10)++(rep5 n).toList.drop (n+(List.replicate m (Value.int .i64 10)).length)).toArray=rep5 (n+m):=by
  unfold rep5
  apply Array.toList_inj.1
  simp only [List.length_replicate]
  rw [List.take_left' (by simp),List.drop_append,List.drop_eq_nil_of_le (by simp),List.nil_append,List.length_replicate,List.drop_replicate,List.replicate_append_replicate,show 5 - n - (n+m - n)=5 - (n+m) by omega]
 rw [this,List.length_replicate,zjz]
 rw [List.length_replicate] at e
 rw [e]
set_option maxHeartbeats 4000000 in
set_option maxRecDepth 1000000 in
theorem Tryz.repeat_walk (b o c:Nat) (w:World) (hx:w.cell? ⟨b,o,none⟩=some (.int .i64 10)) (hb:b < w.heap.size) :
  Calls Tryz.prog 210 #[.slice (some ⟨b,o,none⟩) 1 c,.int .i64 5] w fun e w'=>e=.returned (.slice (some ⟨w.heap.size,0,none⟩) 5 5)∧∃ q,w'=(w.alloc (.cells #[.int .i64 10,.int .i64 10,.int .i64 10,.int .i64 10,.int .i64 10] 3 (0,0))).drewN q:=by
 have mixed:Tryz.prog.follows .mixedOrders=true:=by kernel_rfl
 have hmul:Calls Tryz.prog 239 #[.int .u64 1,.int .u64 5] w fun e w'=>e=.returned (.tuple #[.int .u64 0,.int .u64 5])∧w'=w:=by
  have:=Any.bits_Mul Tryz.lays212 1 5 (by omega) (by omega) w
  change Calls Tryz.prog 239 _ _ _ at this
  simpa using this
 have hmk:∀ W:World,(Instr.makeSlice 27 (.int .i64 5) (.int .i64 5)).run Tryz.prog W=.ok (.slice (some ⟨W.heap.size,0,none⟩) 5 5) (W.alloc (.cells #[.int .i64 0,.int .i64 0,.int .i64 0,.int .i64 0,.int .i64 0] 3 (0,0))):=fun W=>by kernel_rfl
 have hcp0:∀ ty,(Builtin.copy_ #[27,27] ty #[.slice (some ⟨w.heap.size,0,none⟩) 5 5,.slice (some ⟨b,o,none⟩) 1 c]).run Tryz.prog (w.alloc (.cells #[.int .i64 0,.int .i64 0,.int .i64 0,.int .i64 0,.int .i64 0] 3 (0,0)))=.ok (.int .i64 1) ((w.alloc (.cells (rep5 1) 3 (0,0))).drewN 0):=fun ty =>
  ziX w 0 1 0 ⟨b,o,none⟩ 1 c 5 ty (by omega) rfl (fun j hj=>by
   obtain rfl:j=0:=by omega
   have:(w.alloc (.cells (rep5 0) 3 (0,0))).cell? ⟨b,o,none⟩=some (.int .i64 10):=by
    rw [← hx]
    unfold World.cell?
    rw [show (w.alloc (.cells (rep5 0) 3 (0,0))).heap[b]? = w.heap[b]? from Below.heap_alloc w _ b hb]
   simpa [Addr.add] using this)
 go_enter Tryz.func210,Tryz.ntmps210
 go_wp2_with (go_at_call 239;refine hmul.mono ?_;rintro e w' ⟨rfl,rfl⟩)
 go_loopg [8] 5 (fun g s8 wr=>∃ n q:Nat,(n=1∨n=2∨n=4∨n=5)∧5 - n≤g∧s8=.int .i64 n∧wr=(w'.alloc (.cells (rep5 n) 3 (0,0))).drewN q)
 case atStart=>exact ⟨1,0,.inl rfl,by omega,rfl,rfl⟩
 case round =>
  obtain ⟨n,q,hn,hg,rfl,rfl⟩:=hrel
  have hs:∀ (n m sl:Nat),n+m≤5→Nat.min sl (5 - n)=m→m≤n→∀ q dc sc ty,(Builtin.copy_ #[27,27] ty #[.slice (some ⟨w'.heap.size,n,none⟩) (5 - n) dc,.slice (some ⟨w'.heap.size,0,none⟩) sl sc]).run Tryz.prog ((w'.alloc (.cells (rep5 n) 3 (0,0))).drewN q)=.ok (goInt m) ((w'.alloc (.cells (rep5 (n+m)) 3 (0,0))).drewN q) :=
   fun n m sl h1 h2 h3 q dc sc ty=>ziX w' n m q ⟨w'.heap.size,0,none⟩ sl sc dc ty h1 h2 (fun j hj=>by rw [Ovi.add_at,Nat.zero_add];exact zl5 (by omega) (by omega))
  clear hcp0 hmk
  rcases hn with rfl | rfl | rfl | rfl
  ·have h1:∀ q,(Builtin.copy_ #[27,27] 3 #[.slice (some ⟨w'.heap.size,1,none⟩) 4 4,.slice (some ⟨w'.heap.size,0,none⟩) 1 5]).run Tryz.prog ((w'.alloc (.cells (rep5 1) 3 (0,0))).drewN q)=.ok (.int .i64 1) ((w'.alloc (.cells (rep5 2) 3 (0,0))).drewN q):=fun q=>hs 1 1 1 (by omega) rfl (by omega) q 4 5 3
   clear hs
   go_wp2_with fail
   go_region_o
   go_wp2
   go_roundg 3
   case measure=>omega
   case rel=>exact ⟨2,q+1,.inr (.inl rfl),by omega,by first | rfl | go_num,rfl⟩
  ·have h1:∀ q,(Builtin.copy_ #[27,27] 3 #[.slice (some ⟨w'.heap.size,2,none⟩) 3 3,.slice (some ⟨w'.heap.size,0,none⟩) 2 5]).run Tryz.prog ((w'.alloc (.cells (rep5 2) 3 (0,0))).drewN q)=.ok (.int .i64 2) ((w'.alloc (.cells (rep5 4) 3 (0,0))).drewN q):=fun q=>hs 2 2 2 (by omega) rfl (by omega) q 3 5 3
   clear hs
   go_wp2_with fail
   go_region_o
   go_wp2
   go_roundg 1
   case measure=>omega
   case rel=>exact ⟨4,q+1,.inr (.inr (.inl rfl)),by omega,by first | rfl | go_num,rfl⟩
  ·have h1:∀ q,(Builtin.copy_ #[27,27] 3 #[.slice (some ⟨w'.heap.size,4,none⟩) 1 1,.slice (some ⟨w'.heap.size,0,none⟩) 4 5]).run Tryz.prog ((w'.alloc (.cells (rep5 4) 3 (0,0))).drewN q)=.ok (.int .i64 1) ((w'.alloc (.cells (rep5 5) 3 (0,0))).drewN q):=fun q=>hs 4 1 4 (by omega) rfl (by omega) q 1 5 3
   clear hs
   go_wp2_with fail
   go_region_o
   go_wp2
   go_roundg 0
   case measure=>omega
   case rel=>exact ⟨5,q+1,.inr (.inr (.inr rfl)),by omega,by first | rfl | go_num,rfl⟩
  ·go_wp2
   go_ret
   exact ⟨rfl,q,rfl⟩
end Go.Proofs
namespace Go.Proofs
open Go.Shelf Go.RowKit Go.Lib Go.Sort Ovi
set_option maxHeartbeats 2000000 in
set_option maxRecDepth 1000000 in
theorem Tryz.cmp_both (b o c b' o' c':Nat) (xs ys:List Int) (w:World) (hl:xs.length < 4611686018427387904) (hl':ys.length < 4611686018427387904)
  (hx:∀ (i:Nat) z,xs[i]? = some z→w.cell? ⟨b,o+i,none⟩=some (.int .i64 z)) (hy:∀ (i:Nat) z,ys[i]? = some z→w.cell? ⟨b',o'+i,none⟩=some (.int .i64 z)) :
  Calls Tryz.prog 112 #[.slice (some ⟨b,o,none⟩) xs.length c,.slice (some ⟨b',o',none⟩) ys.length c'] w fun e w'=>e=.returned (.int .i64 (cmpL xs ys))∧w'=w:=by
 go_enter Tryz.func112,Tryz.ntmps112
 go_wp2
 go_loop [11] (fun i=>∃ k:Nat,k≤xs.length∧k≤ys.length∧i=.int .i64 k∧Hid (cmpL xs ys=cmpL (xs.drop k) (ys.drop k))) (fun i=>xs.length - (intOf i).toNat)
 case atStart=>exact ⟨0,Nat.zero_le _,Nat.zero_le _,rfl,rfl⟩
 case round =>
  obtain ⟨k,hk,hk',rfl,H⟩:=hrel
  by_cases hlt:k < xs.length
  ·by_cases hlt':k < ys.length
   ·have g1:=hx k _ (List.getElem?_eq_getElem hlt)
    have g2:=hy k _ (List.getElem?_eq_getElem hlt')
    have D:Hid (cmpL (xs.drop k) (ys.drop k)=if xs[k] < ys[k] then -1 else if xs[k] > ys[k] then 1 else cmpL (xs.drop (k+1)) (ys.drop (k+1))):=by
     show _=_
     rw [List.drop_eq_getElem_cons hlt,List.drop_eq_getElem_cons hlt']
     rfl
    clear hx hy
    have hcon:=Any.cmp_Compare_int Tryz.lays122 xs[k] ys[k] w
    change Calls Tryz.prog 133 _ _ _ at hcon
    have E:Hid (Lib.compareInt xs[k] ys[k]=if xs[k] < ys[k] then -1 else if xs[k] > ys[k] then 1 else 0):=by
     show _=_
     unfold Lib.compareInt
     rfl
    generalize hr:Lib.compareInt xs[k] ys[k]=r at hcon E
    clear hr
    generalize xs[k]=x at *
    generalize ys[k]=y at *
    by_cases hr0:r=0
    ·subst hr0
     go_wp2_with (go_at_call 133;refine hcon.mono ?_;rintro e w' ⟨rfl,rfl⟩)
     go_round
     case rel =>
      refine ⟨k+1,by omega,by omega,by go_num,?_⟩
      show _=_
      have h1:=E.out
      have h2:=D.out
      rw [H.out,h2]
      by_cases q1:x < y
      ·rw [if_pos q1] at h1;omega
      ·rw [if_neg q1] at h1 ⊢
       by_cases q2:x > y
       ·rw [if_pos q2] at h1;omega
       ·rw [if_neg q2]
     case measure=>simp [intOf];omega
    ·go_wp2_with (go_at_call 133;refine hcon.mono ?_;rintro e w' ⟨rfl,rfl⟩)
     go_ret
     refine ⟨?_,rfl⟩
     show Ending.returned (Value.int .i64 r)=Ending.returned (Value.int .i64 (cmpL xs ys))
     have h1:=E.out
     have h2:=D.out
     rw [H.out,h2]
     by_cases q1:x < y
     ·rw [if_pos q1] at h1 ⊢;rw [h1]
     ·rw [if_neg q1] at h1 ⊢
      by_cases q2:x > y
      ·rw [if_pos q2] at h1 ⊢;rw [h1]
      ·rw [if_neg q2] at h1;exact absurd h1 hr0
   ·obtain rfl:k=ys.length:=by omega
    have g1:=hx ys.length _ (List.getElem?_eq_getElem hlt)
    have D:Hid (cmpL xs ys=1):=by
     show _=_
     rw [H.out,List.drop_length,List.drop_eq_getElem_cons hlt]
     rfl
    clear hx hy H
    generalize xs[ys.length]=x at g1
    go_wp2
    go_ret
    refine ⟨?_,rfl⟩
    show Ending.returned (Value.int .i64 1)=Ending.returned (Value.int .i64 (cmpL xs ys))
    rw [D.out]
  ·clear hx hy
   obtain rfl:k=xs.length:=by omega
   by_cases hlen:xs.length < ys.length
   ·go_wp2
    go_ret
    refine ⟨?_,rfl⟩
    rw [H.out,List.drop_length,List.drop_eq_getElem_cons hlen]
    rfl
   ·go_wp2
    go_ret
    refine ⟨?_,rfl⟩
    rw [H.out,List.drop_length,List.drop_of_length_le (by omega)]
    rfl
set_option maxHeartbeats 2000000 in
set_option maxRecDepth 1000000 in
theorem Tryz.cmp_nil (A A':Option Addr) (c n c':Nat) (w:World) :
  Calls Tryz.prog 112 #[.slice A 0 c,.slice A' n c'] w fun e w'=>e=.returned (.int .i64 (if 0 < n then -1 else 0))∧w'=w:=by
 by_cases hn:0 < n
 ·rw [if_pos hn]
  go_enter Tryz.func112,Tryz.ntmps112
  go_wp2
  go_loop [11] (fun i=>i=.int .i64 0) (fun _=>0)
  case atStart=>rfl
  case round =>
   subst hrel
   go_wp2
   go_ret
   exact ⟨rfl,rfl⟩
 ·rw [if_neg hn]
  obtain rfl:n=0:=by omega
  go_enter Tryz.func112,Tryz.ntmps112
  go_wp2
  go_loop [11] (fun i=>i=.int .i64 0) (fun _=>0)
  case atStart=>rfl
  case round =>
   subst hrel
   go_wp2
   go_ret
   exact ⟨rfl,rfl⟩
set_option maxHeartbeats 2000000 in
set_option maxRecDepth 1000000 in
theorem Tryz.cmp_one (b o c n c':Nat) (A':Option Addr) (x:Int) (w:World) (hn:0 < n) (hx:w.cell? ⟨b,o,none⟩=some (.int .i64 x)) :
  Calls Tryz.prog 112 #[.slice (some ⟨b,o,none⟩) n c,.slice A' 0 c'] w fun e w'=>e=.returned (.int .i64 1)∧w'=w:=by
 go_enter Tryz.func112,Tryz.ntmps112
 go_wp2
 go_loop [11] (fun i=>i=.int .i64 0) (fun _=>0)
 case atStart=>rfl
 case round =>
  subst hrel
  go_wp2
  go_ret
  exact ⟨rfl,rfl⟩
end Go.Proofs
namespace Ovi
open Go Go.Proofs Go.RowKit Go.Sort Go.Lib
section
variable {α β:Type} [Inhabited α] [Inhabited β]
def ixs (d:Array α):Array (Option (Fin d.size)):=Array.ofFn fun i=>some i
omit [Inhabited α] in
theorem zdz (d:Array α):(ixs d).size=d.size:=by simp [ixs]
def decX (z:α) (d:Array α):Option (Fin d.size)→α
 | none=>z
 | some i=>d[i]
omit [Inhabited α] in
theorem zkK (z:α) (d:Array α):(ixs d).map (decX z d)=d:=by
 apply Array.ext
 ·simp [ixs]
 ·intro i h1 h2
  simp [ixs,decX]
theorem ziE (enc:α→List Value) (g:β→α) (k:Nat) (dk:Array β):flatK (fun x=>enc (g x)) k dk=flatK enc k (dk.map g):=by
 unfold flatK
 rw [Array.size_map]
 apply Array.map_congr_left
 intro t ht
 have ht:t < dk.size * k:=by simpa using ht
 have hk:0 < k:=by
  rcases Nat.eq_zero_or_pos k with h | h
  ·subst h;simp at ht
  ·exact h
 have h1:t / k < dk.size:=Nat.div_lt_of_lt_mul (by rwa [Nat.mul_comm])
 rw [getElem!_pos dk _ h1,getElem!_pos (dk.map g) _ (by simpa using h1),Array.getElem_map]
theorem zeq (enc:α→List Value) (g:β→α) (k:Nat) (w:World) (b n:Nat) (dk:Array β) (os:Array Obj):sortWorldK (fun x=>enc (g x)) k w b 0 n dk os=sortWorldK enc k w b 0 n (dk.map g) os:=by
 unfold sortWorldK putRowK
 rw [ziE]
omit [Inhabited α] in
theorem znw (z:α) (d:Array α) (dk:Array (Option (Fin d.size))):∀ h∈(dk.map (decX z d)).toList,h∈d.toList∨h=z:=by
 intro h hh
 rw [Array.toList_map,List.mem_map] at hh
 obtain ⟨x,_,rfl⟩:=hh
 cases x with
 | none=>exact .inr rfl
 | some i=>exact .inl (by simp [decX])
omit [Inhabited α] in
theorem zmp {γ:Type} (z:α) (d:Array α) (dk:Array (Option (Fin d.size))) (kk:Nat) (lst:α→γ):(dk.toList.take kk).map (fun x=>lst (decX z d x))=((dk.map (decX z d)).toList.take kk).map lst:=by
 rw [Array.toList_map,← List.map_take,List.map_map]
 rfl
omit [Inhabited α] in
theorem znv {γ:Type} (z:α) (d:Array α) (lst:α→γ):(ixs d).toList.map (fun x=>lst (decX z d x))=d.toList.map lst:=by
 have:=congrArg Array.toList (zkK z d)
 rw [Array.toList_map] at this
 conv=>rhs;rw [← this,List.map_map]
 rfl
end
end Ovi
namespace Go.Proofs
open Go.Shelf Go.RowKit Go.Lib Go.Sort Ovi
theorem zkx {w:World} {S:Nat→Prop} {zs:List Int} {B:Option Addr} (hne:zs≠[]) (h:∀ (i:Nat) z,zs[i]? = some z→∃ ad,B=some ad∧S ad.block∧w.cell? (ad.add i)=some (.int .i64 z)):∃ b o,B=some ⟨b,o,none⟩∧∀ (i:Nat) z,zs[i]? = some z→w.cell? ⟨b,o+i,none⟩=some (.int .i64 z):=by
 cases zs with
 | nil=>exact absurd rfl hne
 | cons z0 zs =>
  obtain ⟨ad,e,_,h0⟩:=h 0 z0 rfl
  obtain ⟨b,o,spot⟩:=ad
  have hspot:spot=none:=by simpa [Addr.add] using World.cell?_spot h0
  subst hspot
  refine ⟨b,o,e,fun i z hz=>?_⟩
  obtain ⟨ad',e',_,hi⟩:=h i z hz
  rw [e] at e'
  cases e'
  rwa [Ovi.add_at] at hi
end Go.Proofs
namespace Go.Proofs
open Go.Shelf Go.RowKit Go.Lib Go.Sort
section
variable {α:Type} [Inhabited α]
def ats (lst:α→Int × List Int) (d:Array α):Array (Int × List Int):=d.map lst
omit [Inhabited α] in
theorem zez (lst:α→Int × List Int) (d:Array α):(ats lst d).size=d.size:=by simp [ats]
theorem zd6 (lst:α→Int × List Int) {d:Array α} {k:Nat} (h:k < d.size):(ats lst d)[k]! = lst d[k]! := by
 rw [getElem!_pos _ k (by rw [zez];exact h),getElem!_pos d k h]
 simp [ats]
omit [Inhabited α] in
theorem znj (lst:α→Int × List Int) (d:Array α) (k:Nat) (x:α):ats lst (d.setIfInBounds k x)=(ats lst d).setIfInBounds k (lst x):=by
 unfold ats
 apply Array.ext_getElem?
 intro i
 simp only [Array.getElem?_map,Array.getElem?_setIfInBounds,Array.size_map]
 by_cases h:k=i
 ·subst h
  simp only [if_true]
  split<;>rfl
 ·simp [h]
def zlv (lst:α→Int × List Int) (enc:α→List Value) (w:World) (blk off cap:Nat) (d:Array α) (e:Ending) (w':World):Prop :=
 ∃ (dk:Array α) (kk:Nat),e=.returned (.slice (some ⟨blk,off,none⟩) kk cap)∧dk.size=d.size∧SWK enc 2 w blk off dk w'∧kk≤d.size∧(dk.toList.take kk).map lst=Lib.compact (d.toList.map lst)
theorem zkA (lst:α→Int × List Int) (enc:α→List Value) {w w':World} {blk off cap:Nat} {d:Array α} (hS:SWK enc 2 w blk off d w') (hall:∀ j,j < d.size→keeps (ats lst d) j=true):zlv lst enc w blk off cap d (.returned (.slice (some ⟨blk,off,none⟩) d.size cap)) w':=by
 refine ⟨d,d.size,rfl,rfl,hS,Nat.le_refl _,?_⟩
 rw [show d.size=d.toList.length by simp,List.take_length]
 have:=compact_all (d.toList.map lst) (fun j hj=>by
  have h2:(d.toList.map lst).toArray=ats lst d:=by apply Array.ext_getElem?; intro i;simp [ats]
  rw [h2]
  exact hall j (by simpa using hj))
 exact this.symm
theorem znk (lst:α→Int × List Int) {d dk:Array α} {kk:Nat} (h:CompInv (ats lst d) (ats lst d).size kk (ats lst dk)) (hs:dk.size=d.size):(dk.toList.take kk).map lst=Lib.compact (d.toList.map lst):=by
 have h2:(d.toList.map lst).toArray=ats lst d:=by apply Array.ext_getElem?; intro i;simp [ats]
 unfold Lib.compact
 rw [h2,show (d.toList.map lst).length=(ats lst d).size by simp [ats]]
 have hlt:=h.lt
 rw [zez] at hlt
 apply List.ext_getElem?
 intro i
 by_cases hi:i < kk
 ·rw [h.low i hi,zd6 lst (by omega),List.getElem?_map,List.getElem?_take_of_lt hi,getElem!_pos dk i (by omega)]
  simp [show i < dk.size by omega]
 ·rw [List.getElem?_eq_none (by simp;omega),List.getElem?_eq_none (by rw [h.len];omega)]
omit [Inhabited α] in
theorem lay_size':∀ (xs:List α) (d:Array α) (k:Nat),(lay d k xs).size=d.size
 | [],_,_=>rfl
 | x::r,d,k=>by rw [lay,lay_size' r];simp
def zjs (P:Program) (g:Nat) (enc:α→List Value) (lst:α→Int × List Int) (blk off size:Nat) (w:World):Prop :=
 ∀ (m:Nat) (os:Array Obj) (dk:Array α),dk.size=size→∀ x y:α,
  Calls P g #[.agg (enc x).toArray,.agg (enc y).toArray] (sortWorldK enc 2 w blk off m dk os) fun e w'=>e=.returned (.bool (decide (lst x=lst y)))∧∃ q os',w'=grow ((sortWorldK enc 2 w blk off m dk os).drewN q) os'
theorem SWK.eqc {P:Program} {enc:α→List Value} {lst:α→Int × List Int} {w0 W:World} {blk off:Nat} {dk:Array α} {g size:Nat} (h:SWK enc 2 w0 blk off dk W) (hC:zjs P g enc lst blk off size w0) (hs:dk.size=size) (x y:α) (n:Nat) (os:Array Obj) :
  Calls P g #[.agg (enc x).toArray,.agg (enc y).toArray] (grow (W.drewN n) os) fun e w'=>e=.returned (.bool (decide (lst x=lst y)))∧∃ q os',w'=grow ((grow (W.drewN n) os).drewN q) os':=by
 obtain ⟨m,os0,hw⟩:=h.grown n os
 rw [hw]
 exact hC m os0 dk hs x y
theorem SWK.cells2 {enc:α→List Value} {w0 W:World} {blk off:Nat} {dk d0:Array α} (h:SWK enc 2 w0 blk off dk W) (R:RowK enc 2 w0 blk off d0) (hs:dk.size=d0.size) (i:Nat) (hi:i < dk.size) :
  W.cell? ⟨blk,off+i * 2,none⟩=some (enc dk[i]!)[0]! ∧ W.cell? ⟨blk,off+i * 2+1,none⟩=some (enc dk[i]!)[1]! ∧ W.frozen? ⟨blk,off+i * 2,none⟩=false∧W.frozen? ⟨blk,off+i * 2+1,none⟩=false:=by
 have hH:=h.holds R.hblk R.hH hs
 have h0:=hH.cell (c:=0) hi (by omega)
 have h1:=hH.cell (c:=1) hi (by omega)
 exact ⟨h0.1,h1.1,h0.2,h1.2⟩
theorem two {l:List Value} (h:l.length=2):l=[l[0]!, l[1]!]:=by
 match l,h with
 | [a,b],_=>rfl
set_option maxHeartbeats 8000000 in
set_option maxRecDepth 1000000 in
theorem Tryz.compactFacts (enc:α→List Value) (lst:α→Int × List Int) (z:α) (hz:enc z=[.int .i64 0,.slice none 0 0]) (g:Nat) (blk off cap:Nat) (d:Array α) (w:World) (R:RowK enc 2 w blk off d)
  (eg:∀ args w,(callFunc g args).run Tryz.prog w=.ok (.enter g args) w) (hcmp:zjs Tryz.prog g enc lst blk off d.size w)
  (hsz:d.size < 4611686018427387904) (hcap:d.size≤cap) :
  Calls Tryz.prog 151 #[.slice (some ⟨blk,off,none⟩) d.size cap,.func (.func g) #[] #[]] w (zlv lst enc w blk off cap d):=by
 have mixed:Tryz.prog.follows .mixedOrders=true:=by kernel_rfl
 have RR:Aside (RowK enc 2 w blk off d):=R
 have HC:Aside (zjs Tryz.prog g enc lst blk off d.size w):=hcmp
 have S0:Aside (SWK enc 2 w blk off d w):=SWK.start R.hH
 clear hcmp R
 by_cases h2:d.size < 2
 ·go_enter Tryz.func151,Tryz.ntmps151
  go_wp2
  go_ret
  exact zkA lst enc S0.out (fun j hj=>keeps_lt_one _ j (by omega))
 ·go_enter Tryz.func151,Tryz.ntmps151
  go_wp2
  go_loopg [5] d.size (fun g s5 wr=>∃ k:Nat,1≤k∧k≤d.size∧d.size - k≤g∧s5=.int .i64 k∧Aside (SWK enc 2 w blk off d wr)∧Hid (∀ j,j < k→keeps (ats lst d) j=true))
  case atStart=>exact ⟨1,Nat.le_refl _,by omega,by omega,rfl,S0,keeps_lt_one _⟩
  case round =>
   clear S0
   obtain ⟨k,hk1,hk,hg,rfl,S1,hall⟩:=hrel
   by_cases hlt:k < d.size
   ·obtain ⟨k1,rfl⟩:∃ k1,k=k1+1:=⟨k - 1,by omega⟩
    have cj0:=fun n os=>((S1.out.grown n os).cells2 RR.out rfl (k1+1) hlt).1
    have cj1:=fun n os=>((S1.out.grown n os).cells2 RR.out rfl (k1+1) hlt).2.1
    have cp0:=fun n os=>((S1.out.grown n os).cells2 RR.out rfl k1 (by omega)).1
    have cp1:=fun n os=>((S1.out.grown n os).cells2 RR.out rfl k1 (by omega)).2.1
    have hcg:=fun n os=>S1.out.eqc HC.out rfl d[k1+1]! d[k1]! n os
    have B:Aside ((ats lst d)[k1+1]! = lst d[k1+1]! ∧ (ats lst d)[k1]! = lst d[k1]!):=⟨zd6 lst hlt,zd6 lst (by omega)⟩
    have hx2:(enc d[k1+1]!).length=2:=RR.out.hk _
    have hy2:(enc d[k1]!).length=2:=RR.out.hk _
    generalize d[k1+1]! = x at *
    generalize d[k1]! = y at *
    rw [two hx2,two hy2] at hcg
    generalize (enc x)[0]! = x0 at *
    generalize (enc x)[1]! = x1 at *
    generalize (enc y)[0]! = y0 at *
    generalize (enc y)[1]! = y1 at *
    clear hx2 hy2
    have hwp:IntKind.i64.wrap (k1:Int)=(k1:Int):=by rw [IntKind.wrap_i64];omega
    have jz:(k1:Int)+1 < (d.size:Int):=by omega
    have jz1:(k1:Int) < (d.size:Int):=by omega
    have p0:(0:Int)≤(k1:Int)+1:=by omega
    have e0:((k1:Int)+1).toNat=k1+1:=by omega
    by_cases hdup:lst x=lst y
    ·have hd:decide (lst x=lst y)=true:=decide_eq_true hdup
     rw [hd] at hcg
     clear hd
     go_wp2_with fail
     go_quiet_grown (first | (go_at_fn g;refine Calls.grown_of (hcg _ _)))
     go_wp2_with fail
     go_wp2
     go_loopg [5,7] d.size (fun g s5 s7 wr=>∃ (kk kb:Nat) (dk:Array α),s5=.int .i64 kk∧s7=.int .i64 ((kb+1:Nat):Int)∧k1+1+(kb+1)≤d.size∧d.size - (k1+1+(kb+1))≤g∧dk.size=d.size∧Aside (SWK enc 2 w blk off dk wr)∧Hid (CompInv (ats lst d) (k1+1+(kb+1)) kk (ats lst dk)))
     case atStart =>
      refine ⟨k1+1,0,d,by first | rfl | go_num,by first | rfl | go_num,by omega,by omega,rfl,S1.out.grown nq osq,(show CompInv _ _ _ _ from ?_)⟩
      exact CompInv.start hall.out (keeps_neg (by omega) (by rw [B.out.1,Nat.add_sub_cancel,B.out.2];exact hdup))
     case round =>
      clear S1 cj0 cj1 cp0 cp1 hcg
      obtain ⟨kk,kb,dk,rfl,rfl,hle,hg2,hds,S3,hI⟩:=hrel
      have hkk:=hI.out.lt
      by_cases hlt2:k1+1+(kb+1) < d.size
      ·have cm0:=fun n os=>((S3.out.grown n os).cells2 RR.out hds (k1+1+(kb+1)) (by omega)).1
       have cm1:=fun n os=>((S3.out.grown n os).cells2 RR.out hds (k1+1+(kb+1)) (by omega)).2.1
       have cp0:=fun n os=>((S3.out.grown n os).cells2 RR.out hds (k1+1+kb) (by omega)).1
       have cp1:=fun n os=>((S3.out.grown n os).cells2 RR.out hds (k1+1+kb) (by omega)).2.1
       have hcg:=fun n os=>S3.out.eqc HC.out hds dk[k1+1+(kb+1)]! dk[k1+1+kb]! n os
       have B2:Aside ((ats lst d)[k1+1+(kb+1)]! = lst dk[k1+1+(kb+1)]! ∧ (ats lst d)[k1+1+kb]! = lst dk[k1+1+kb]!) :=
        ⟨by rw [← hI.out.high _ (by omega),zd6 lst (by omega)],by rw [← hI.out.high _ (by omega),zd6 lst (by omega)]⟩
       rw [show off+(k1+1+(kb+1)) * 2=off+(k1+1) * 2+(kb+1) * 2 by omega] at cm0 cm1
       rw [show off+(k1+1+kb) * 2=off+(k1+1) * 2+kb * 2 by omega] at cp0 cp1
       have hx2:(enc dk[k1+1+(kb+1)]!).length=2:=RR.out.hk _
       have hy2:(enc dk[k1+1+kb]!).length=2:=RR.out.hk _
       have hu1:=RR.out.h1 dk[k1+1+(kb+1)]!
       generalize dk[k1+1+(kb+1)]! = um at *
       generalize dk[k1+1+kb]! = up at *
       have E:Aside (enc um=[(enc um)[0]!, (enc um)[1]!]):=two hx2
       rw [two hx2,two hy2] at hcg
       rw [two hx2] at hu1
       have o0:(enc um)[0]!.oneCell'=true:=hu1 _ (by simp)
       have o1:(enc um)[1]!.oneCell'=true:=hu1 _ (by simp)
       generalize (enc um)[0]! = m0 at *
       generalize (enc um)[1]! = m1 at *
       generalize (enc up)[0]! = p0' at *
       generalize (enc up)[1]! = p1' at *
       clear hx2 hy2 hu1
       have r1:(kb:Int)+1 < ((d.size - (k1+1):Nat):Int):=by omega
       have r2:(kb:Int) < ((d.size - (k1+1):Nat):Int):=by omega
       have r3:(0:Int)≤(kb:Int)+1:=by omega
       have r4:((kb:Int)+1).toNat=kb+1:=by omega
       have r5:IntKind.i64.wrap (kb:Int)=(kb:Int):=by rw [IntKind.wrap_i64];omega
       have r6:kk < d.size:=by omega
       by_cases hdup2:lst um=lst up
       ·have hd:decide (lst um=lst up)=true:=decide_eq_true hdup2
        rw [hd] at hcg
        clear hd
        go_wp2_with fail
        go_quiet_grown (first | (go_at_fn g;refine Calls.grown_of (hcg _ _)))
        go_wp2
        go_roundg (d.size - (k1+1+(kb+1+1)))
        case measure=>omega
        case rel=>exact ⟨kk,kb+1,dk,rfl,by go_num,by omega,Nat.le_refl _,hds,S3.out.grown nq osq,hI.out.skip (keeps_neg (by omega) (by rw [B2.out.1,show k1+1+(kb+1) - 1=k1+1+kb by omega,B2.out.2];exact hdup2))⟩
       ·have hd:decide (lst um=lst up)=false:=decide_eq_false hdup2
        rw [hd] at hcg
        clear hd
        go_wp2_with fail
        go_quiet_grown (first | (go_at_fn g;refine Calls.grown_of (hcg _ _)))
        go_wp2_with fail
        have S4:Aside (SWK enc 2 w blk off dk (grow (wr.drewN nq) osq)):=S3.out.grown nq osq
        have cm02:=cm0 nq osq
        have cm12:=cm1 nq osq
        obtain ⟨ck0,ck1,fk0,fk1⟩:=S4.out.cells2 RR.out hds kk (by omega)
        clear cm0 cm1 cp0 cp1 hcg S3
        generalize grow (wr.drewN nq) osq=wr4 at cm02 cm12 ck0 ck1 fk0 fk1 S4 ⊢
        generalize (enc dk[kk]!)[0]! = k0 at *
        generalize (enc dk[kk]!)[1]! = k1' at *
        have hst0:Sem.run Tryz.prog (store ⟨blk,off+kk * 2,none⟩ m0) wr4=.ok () (wr4.setCell ⟨blk,off+kk * 2,none⟩ m0):=by rw [run_store Tryz.prog _ _ _ _ o0,ck0];simp [fk0]
        have hst1:Sem.run Tryz.prog (store ⟨blk,off+kk * 2+1,none⟩ m1) (wr4.setCell ⟨blk,off+kk * 2,none⟩ m0)=.ok () ((wr4.setCell ⟨blk,off+kk * 2,none⟩ m0).setCell ⟨blk,off+kk * 2+1,none⟩ m1):=by
         rw [run_store Tryz.prog _ _ _ _ o1,World.cell?_setCell_other _ _ _ _ (by simp),ck1,World.frozen?_setCell];simp [fk1]
        have S5:Aside (SWK enc 2 w blk off (dk.setIfInBounds kk um) ((wr4.setCell ⟨blk,off+kk * 2,none⟩ m0).setCell ⟨blk,off+kk * 2+1,none⟩ m1)):=by
         have:=S4.out.set RR.out kk (by omega) um
         rw [E.out] at this
         exact this
        generalize (wr4.setCell ⟨blk,off+kk * 2,none⟩ m0).setCell ⟨blk,off+kk * 2+1,none⟩ m1=wr5 at hst1 S5
        generalize wr4.setCell ⟨blk,off+kk * 2,none⟩ m0=wr45 at hst0 hst1
        go_wp2
        simp only [hst0,hst1,Result.andThen_ok]
        go_wp2
        go_roundg (d.size - (k1+1+(kb+1+1)))
        case measure=>omega
        case rel =>
         refine ⟨kk+1,kb+1,dk.setIfInBounds kk um,by go_num,by go_num,by omega,Nat.le_refl _,by simpa using hds,S5,(show CompInv _ _ _ _ from ?_)⟩
         have:=hI.out.keep (by rw [zez];omega) (keeps_pos (by rw [B2.out.1,show k1+1+(kb+1) - 1=k1+1+kb by omega,B2.out.2];exact hdup2))
         rw [B2.out.1] at this
         rw [znj]
         exact this
      ·have hend:k1+1+(kb+1)=d.size:=by omega
       have hcl:∀ ty,(Builtin.clear_ #[31] ty #[.slice (some ⟨blk,off+kk * 2,none⟩) (d.size - kk) (cap - kk)]).run Tryz.prog wr=.ok (.tuple #[]) (wr.setCells blk (off+kk * 2) (List.replicate (d.size - kk) (enc z)).flatten) :=
        fun ty=>S3.out.clear RR.out hds Tryz.prog 31 114 ty z (.agg #[.int .i64 0,.slice none 0 0]) Tryz.underlying31 Tryz.zeroValue114 (by rw [hz];rfl) (by omega) kk (d.size - kk) (cap - kk) (by omega) (by omega)
       have S4:Aside (SWK enc 2 w blk off (Lib.lay dk kk (List.replicate (d.size - kk) z)) (wr.setCells blk (off+kk * 2) (List.replicate (d.size - kk) (enc z)).flatten)):=SWK.lay RR.out z (d.size - kk) kk dk wr S3.out (by omega)
       generalize wr.setCells blk (off+kk * 2) (List.replicate (d.size - kk) (enc z)).flatten=wr6 at hcl S4
       have r1:¬ (kb:Int)+1 < ((d.size - (k1+1):Nat):Int):=by omega
       clear S3
       go_wp2
       go_ret
       have hI:=hI.out
       rw [hend] at hI
       refine ⟨Lib.lay dk kk (List.replicate (d.size - kk) z),kk,rfl,?_,S4.out,by omega,?_⟩
       ·rw [lay_size'];exact hds
       ·rw [← znk lst (by rw [zez];exact hI) hds]
        congr 1
        apply List.ext_getElem?
        intro i
        rw [List.getElem?_take,List.getElem?_take]
        by_cases h:i < kk
        ·rw [if_pos h,if_pos h,Array.getElem?_toList,Array.getElem?_toList,lay_get? _ _ _ _ (by simp;omega),if_neg (by omega)]
        ·rw [if_neg h,if_neg h]
    ·have hd:decide (lst x=lst y)=false:=decide_eq_false hdup
     rw [hd] at hcg
     clear hd
     go_wp2_with fail
     go_quiet_grown (first | (go_at_fn g;refine Calls.grown_of (hcg _ _)))
     go_wp2
     go_roundg (d.size - (k1+1+1))
     case measure=>omega
     case rel =>
      refine ⟨k1+1+1,by omega,by omega,Nat.le_refl _,by go_num,S1.out.grown nq osq,(show ∀ j,j < k1+1+1→keeps (ats lst d) j=true from fun j hj=>?_)⟩
      by_cases e:j=k1+1
      ·subst e
       exact keeps_pos (by rw [B.out.1,Nat.add_sub_cancel,B.out.2];exact hdup)
      ·exact hall.out j (by omega)
   ·have:k=d.size:=by omega
    subst this
    go_wp2
    go_ret
    exact zkA lst enc S1.out hall.out
end
end Go.Proofs
namespace Go.Proofs
open Go.Shelf Go.RowKit Go.Lib Go.Sort Ovi
def cmpA (x y:Int × List Int):Int:=if x.1 < y.1 then -1 else if x.1 > y.1 then 1 else cmpL x.2 y.2
set_option maxHeartbeats 4000000 in
set_option maxRecDepth 1000000 in
theorem Tryz.or2 (b c:Nat) (x y:Int) (w:World) (h0:w.cell? ⟨b,0,none⟩=some (.int .i64 x)) (h1:w.cell? ⟨b,1,none⟩=some (.int .i64 y)) :
  Calls Tryz.prog 132 #[.slice (some ⟨b,0,none⟩) 2 c] w fun e w'=>e=.returned (.int .i64 (if x=0 then y else x))∧w'=w:=by
 go_enter Tryz.func132,Tryz.ntmps132
 go_wp2
 go_loopg [8] 2 (fun g s8 wr=>∃ i:Nat,i≤2∧2 - i≤g∧s8=.int .i64 i∧wr=w∧(1≤i→x=0)∧(2≤i→y=0))
 case atStart=>exact ⟨0,by omega,by omega,rfl,rfl,fun h=>by omega,fun h=>by omega⟩
 case round =>
  obtain ⟨i,hi,hg,rfl,rfl,hx,hy⟩:=hrel
  match i,hi with
  | 0,_ =>
   by_cases hx0:x=0
   ·subst hx0
    go_wp2
    go_roundg 1
    case measure=>omega
    case rel=>exact ⟨1,by omega,by omega,by first | rfl | go_num,rfl,fun _=>by first | trivial | rfl,fun h=>by omega⟩
   ·go_wp2
    go_ret
    exact ⟨rfl,rfl⟩
  | 1,_ =>
   obtain rfl:=hx (by omega)
   by_cases hy0:y=0
   ·subst hy0
    go_wp2
    go_roundg 0
    case measure=>omega
    case rel=>exact ⟨2,by omega,by omega,by first | rfl | go_num,rfl,fun _=>by first | trivial | rfl,fun _=>by first | trivial | rfl⟩
   ·go_wp2
    go_ret
    exact ⟨rfl,rfl⟩
  | 2,_ =>
   obtain rfl:=hx (by omega)
   obtain rfl:=hy (by omega)
   go_wp2
   go_ret
   exact ⟨rfl,rfl⟩
set_option maxHeartbeats 40000000 in
set_option maxRecDepth 1000000 in
theorem Tryz.cmpFacts (r1 r2:Int) (u v:Value) (c:Int) (w:World) (hu:u.oneCell'=true) (hv:v.oneCell'=true)
  (h108:∀ o1 o2,Calls Tryz.prog 112 #[u,v] ((w.alloc o1).alloc o2).drew fun e w'=>e=.returned (.int .i64 c)∧w'=((w.alloc o1).alloc o2).drew) :
  Calls Tryz.prog 77 #[.agg #[.int .i64 r1,u],.agg #[.int .i64 r2,v]] w fun e w'=>e=.returned (.int .i64 (if Lib.compareInt r1 r2=0 then c else Lib.compareInt r1 r2))∧∃ q os',w'=grow (w.drewN q) os':=by
 have mixed:Tryz.prog.follows .mixedOrders=true:=by kernel_rfl
 have h116:∀ W,Calls Tryz.prog 133 #[.int .i64 r1,.int .i64 r2] W fun e w'=>e=.returned (.int .i64 (Lib.compareInt r1 r2))∧w'=W:=fun W=>Any.cmp_Compare_int Tryz.lays122 r1 r2 W
 obtain ⟨z,hz⟩:∃ z,z=if Lib.compareInt r1 r2=0 then c else Lib.compareInt r1 r2:=⟨_,rfl⟩
 have hor:∀ (b k:Nat) (W:World),W.cell? ⟨b,0,none⟩=some (.int .i64 (Lib.compareInt r1 r2))→W.cell? ⟨b,1,none⟩=some (.int .i64 c)→Calls Tryz.prog 132 #[.slice (some ⟨b,0,none⟩) 2 k] W fun e w'=>e=.returned (.int .i64 z)∧w'=W:=fun b k W h0 h1=>by rw [hz];exact Tryz.or2 b k _ _ W h0 h1
 rw [← hz]
 clear hz
 generalize Lib.compareInt r1 r2=r at *
 go_enter Tryz.func77,Tryz.ntmps77
 go_wp2
 have c0:((w.alloc (Obj.cells #[Value.int IntKind.i64 r1,u] 114)).alloc (Obj.cells #[Value.int IntKind.i64 r2,v] 114)).drew.cell? ⟨w.heap.size,0,none⟩=some (.int .i64 r1):=by go_simp
 have c1:((w.alloc (Obj.cells #[Value.int IntKind.i64 r1,u] 114)).alloc (Obj.cells #[Value.int IntKind.i64 r2,v] 114)).drew.cell? ⟨w.heap.size,1,none⟩=some u:=by go_simp
 have c2:((w.alloc (Obj.cells #[Value.int IntKind.i64 r1,u] 114)).alloc (Obj.cells #[Value.int IntKind.i64 r2,v] 114)).drew.cell? ⟨w.heap.size+1,0,none⟩=some (.int .i64 r2):=by go_simp
 have c3:((w.alloc (Obj.cells #[Value.int IntKind.i64 r1,u] 114)).alloc (Obj.cells #[Value.int IntKind.i64 r2,v] 114)).drew.cell? ⟨w.heap.size+1,1,none⟩=some v:=by go_simp
 have hg:∀ o,(((w.alloc (Obj.cells #[Value.int IntKind.i64 r1,u] 114)).alloc (Obj.cells #[Value.int IntKind.i64 r2,v] 114)).drew.alloc o)=grow (w.drewN 1) #[Obj.cells #[Value.int IntKind.i64 r1,u] 114,Obj.cells #[Value.int IntKind.i64 r2,v] 114,o]:=fun o=>by
  unfold World.alloc World.drew World.drewN grow
  simp only [World.mk.injEq,and_true,true_and]
  apply Array.ext'
  simp
 have h108:=h108 (Obj.cells #[Value.int IntKind.i64 r1,u] 114) (Obj.cells #[Value.int IntKind.i64 r2,v] 114)
 have HG:Aside _:=hg
 clear hg
 generalize hW:(w.alloc (Obj.cells #[Value.int IntKind.i64 r1,u] 114)).alloc (Obj.cells #[Value.int IntKind.i64 r2,v] 114)=W at *
 have HW:Hid _:=hW
 clear hW
 go_region_with_o (first
  | (go_at_call 133;refine (h116 _).mono ?_;rintro e w' ⟨rfl,rfl⟩)
  | (go_at_call 112;refine h108.mono ?_;rintro e w' ⟨rfl,rfl⟩)
  | (go_at_call 132;refine (hor _ _ _ (by go_simp) (by go_simp)).mono ?_;rintro e w' ⟨rfl,rfl⟩))
 all_goals (
  go_wp2
  go_ret
  exact ⟨rfl,1,_,HG.out _⟩)
end Go.Proofs
namespace Go.Proofs
open Go Ovi Go.RowKit Go.Shelf Go.Sort Go.Lib
theorem Tryz.cfa_nil (A:Option Addr) (cap:Nat) (w:World):Calls Tryz.prog 151 #[.slice A 0 cap,.func (.func 152) #[] #[]] w fun e w'=>e=.returned (.slice A 0 cap)∧w'=w:=by
 go_enter Tryz.func151,Tryz.ntmps151
 go_wp2
 go_ret
 exact ⟨rfl,rfl⟩
theorem Tryz.cmp108 {w:World} {S:Nat→Prop} {u v:Value} {xs ys:List Int} (hu:RI w S u xs) (hv:RI w S v ys) (hxl:xs.length≤1099511627776) (hyl:ys.length≤1099511627776):Calls Tryz.prog 112 #[u,v] w fun e w'=>e=.returned (.int .i64 (cmpL xs ys))∧w'=w:=by
 obtain ⟨A,c,hu,hc,hx⟩:=hu
 obtain ⟨A',c',hv,hc',hy⟩:=hv
 subst hu hv
 have fin:∀ {z z':Int},z=z'→∀ {vs:Array Value},(Calls Tryz.prog 112 vs w fun e w'=>e=.returned (.int .i64 z)∧w'=w)→Calls Tryz.prog 112 vs w fun e w'=>e=.returned (.int .i64 z')∧w'=w:=by
  intro z z' hz vs h
  subst hz
  exact h
 by_cases hx0:xs=[]
 ·subst hx0
  refine fin ?_ (Tryz.cmp_nil A A' c ys.length c' w)
  cases ys with
  | nil=>rfl
  | cons y ys=>rw [if_pos (by simp)];rfl
 ·obtain ⟨b,o,rfl,hx1⟩:=zkx hx0 hx
  by_cases hy0:ys=[]
  ·subst hy0
   cases xs with
   | nil=>exact absurd rfl hx0
   | cons x xs=>exact fin rfl (Tryz.cmp_one b o c _ c' A' x w (by simp) (by have:=hx1 0 x rfl;simpa using this))
  ·obtain ⟨b',o',rfl,hy1⟩:=zkx hy0 hy
   exact fin rfl (Tryz.cmp_both b o c b' o' c' xs ys w (by omega) (by omega) hx1 hy1)
theorem zgv (W:World) (o1 o2:Obj) {k:Nat} (h:k < W.heap.size):((W.alloc o1).alloc o2).drew.heap[k]? = W.heap[k]? := by
 show ((W.heap.push o1).push o2)[k]? = _
 rw [Array.getElem?_push,if_neg (by simp;omega),Array.getElem?_push,if_neg (by omega)]
theorem Tryz.cmp88 {w W:World} {S:Nat→Prop} (hS:∀ k,S k→k < w.heap.size) (hW:Stab S w W) (hsz:w.heap.size≤W.heap.size) (x y:HdA w S) :
  Calls Tryz.prog 77 #[.agg (encA x).toArray,.agg (encA y).toArray] W fun e w'=>e=.returned (.int .i64 (zeB x y))∧∃ q os',w'=grow (W.drewN q) os':=by
 have one:∀ x:HdA w S,x.v.oneCell'=true:=fun x=>zeF x _ (by simp [encA])
 have:=Tryz.cmpFacts x.r y.r x.v y.v (cmpL x.l y.l) W (one x) (one y) (fun o1 o2=>by
  have hst:Stab S w ((W.alloc o1).alloc o2).drew:=fun k hk=>by
   rw [zgv W o1 o2 (Nat.lt_of_lt_of_le (hS k hk) hsz)]
   exact hW k hk
  exact Tryz.cmp108 (x.h.stab hst) (y.h.stab hst) x.b y.b)
 refine this.mono fun e w' ⟨h1,h2⟩=>⟨?_,h2⟩
 rw [h1]
 congr 2
 unfold zeB Ovi.cmpA lstA Lib.compareInt
 by_cases c1:x.r < y.r
 ·simp [c1]
 ·by_cases c2:x.r > y.r
  ·simp [c1,c2]
  ·simp [c1,c2]
theorem zkp (W:World) (o1 o2:Obj) (q:Nat) (os:Array Obj):grow (((W.alloc o1).alloc o2).drewN q) os=grow (W.drewN q) (#[o1,o2]++os):=by
 unfold World.alloc World.drewN grow
 simp only [World.mk.injEq,and_true,true_and]
 apply Array.ext'
 simp
set_option maxHeartbeats 4000000 in
set_option maxRecDepth 1000000 in
theorem Tryz.same90 (r1 r2 c:Int) (u v:Value) (hu:u.oneCell'=true) (hv:v.oneCell'=true) (W:World)
  (h88:∀ o1 o2,Calls Tryz.prog 77 #[.agg #[.int .i64 r1,u],.agg #[.int .i64 r2,v]] ((W.alloc o1).alloc o2) fun e w'=>e=.returned (.int .i64 c)∧∃ q os',w'=grow (((W.alloc o1).alloc o2).drewN q) os') :
  Calls Tryz.prog 152 #[.agg #[.int .i64 r1,u],.agg #[.int .i64 r2,v]] W fun e w'=>e=.returned (.bool (decide (c=0)))∧∃ q os',w'=grow (W.drewN q) os':=by
 have h:=h88 (Obj.cells #[Value.int IntKind.i64 r1,u] 114) (Obj.cells #[Value.int IntKind.i64 r2,v] 114)
 have hg:=zkp W (Obj.cells #[Value.int IntKind.i64 r1,u] 114) (Obj.cells #[Value.int IntKind.i64 r2,v] 114)
 have HG:Aside _:=hg
 clear hg h88
 go_enter Tryz.func152,Tryz.ntmps152
 go_wp2_with (go_at_call 77;refine h.mono ?_;rintro e w' ⟨rfl,q,os',rfl⟩)
 go_ret
 refine ⟨?_,q,_,HG.out q os'⟩
 first | rfl | (congr 2)
theorem Tryz.eq90 {w W:World} {S:Nat→Prop} (hS:∀ k,S k→k < w.heap.size) (hW:Stab S w W) (hsz:w.heap.size≤W.heap.size) (x y:HdA w S) :
  Calls Tryz.prog 152 #[.agg (encA x).toArray,.agg (encA y).toArray] W fun e w'=>e=.returned (.bool (decide (lstA x=lstA y)))∧∃ q os',w'=grow (W.drewN q) os':=by
 have one:∀ x:HdA w S,x.v.oneCell'=true:=fun x=>zeF x _ (by simp [encA])
 refine (Tryz.same90 x.r y.r (zeB x y) x.v y.v (one x) (one y) W (fun o1 o2=>by
  have hst:Stab S w ((W.alloc o1).alloc o2):=fun k hk=>by
   have:=zgv W o1 o2 (Nat.lt_of_lt_of_le (hS k hk) hsz)
   exact this.trans (hW k hk)
  exact Tryz.cmp88 hS hst (by show w.heap.size≤((W.heap.push o1).push o2).size;rw [Array.size_push,Array.size_push];omega) x y)).mono fun e w' ⟨h1,h2⟩=>⟨?_,h2⟩
 rw [h1]
 congr 2
 rw [Bool.eq_iff_iff,decide_eq_true_eq,decide_eq_true_eq]
 unfold zeB
 constructor
 ·intro h
  refine zjf _ _ ?_ ?_
  ·unfold ltA;rw [h];rfl
  ·unfold ltA
   have:cmpA (lstA x) (lstA y)=0:=h
   rw [decide_eq_false_iff_not]
   intro h'
   have h2:ltA (lstA y) (lstA x)=true:=decide_eq_true h'
   rw [zim] at h2
   have h3:ltA (lstA x) (lstA y)=false:=by unfold ltA;rw [h];rfl
   revert this
   unfold cmpA
   rcases h2 with h2 | ⟨h2,h2'⟩
   ·rw [if_neg (by omega),if_pos (by omega)];omega
   ·rw [if_neg (by omega),if_neg (by omega)]
    intro h4
    have key:∀ a b:List Int,cmpL a b=0→a=b:=by
     intro a
     induction a with
     | nil=>intro b hb;cases b with
      | nil=>rfl
      | cons y ys=>simp [cmpL] at hb
     | cons z zs ih =>
      intro b hb
      cases b with
      | nil=>simp [cmpL] at hb
      | cons y ys =>
       unfold cmpL at hb
       by_cases c1:z < y
       ·rw [if_pos c1] at hb;omega
       ·rw [if_neg c1] at hb
        by_cases c2:z > y
        ·rw [if_pos c2] at hb;omega
        ·rw [if_neg c2] at hb
         rw [ih ys hb,show z=y by omega]
    rw [key _ _ h4] at h2'
    exact List.lt_irrefl _ h2'
 ·intro h
  rw [h]
  have h1:=swoA.irrefl (lstA y)
  unfold Ovi.cmpA
  rw [if_neg (by omega),if_neg (by omega)]
  have key:∀ a:List Int,cmpL a a=0:=by
   intro a
   induction a with
   | nil=>rfl
   | cons z zs ih=>unfold cmpL;rw [if_neg (by omega),if_neg (by omega)];exact ih
  exact key _
end Go.Proofs
namespace Go.Proofs.YtiacahdabflcdaaGreat.Q
open Go Ovi Go.RowKit Go.Proofs
theorem zmN:zbo Tryz.prog hs (fun _=>none) 8 176 [.d (.list 1 [])]=some []:=by kernel_rfl
theorem sortC:SortC Tryz.prog 176 where
 known:=⟨Tryz.f176,Tryz.func176,rfl,by kernel_rfl⟩
 run:=fun blk off cap zs w hH hb hl=>Any.slices_Sort_int Tryz.lays189 blk off cap zs w hH hb hl
 nil:=fun A w=>by
  refine ((bare 8).plain 176 _ _ zmN w (fun _=>False) (fun _=>False) #[.slice A 0 0] (fun _ h=>h.elim) (fun _ h=>h.elim) ⟨rfl,fun j a ha=>?_⟩ trivial).mono fun e w' ⟨v,S',mr,he,hb,_,_,hr,_⟩=>?_
  ·cases j with
   | zero=>cases ha;exact ⟨_,rfl,RD.nil A 1⟩
   | succ j=>simp at ha
  ·obtain ⟨⟨vs,h1,h2,_⟩,_⟩:=hr
   obtain rfl:=List.eq_nil_of_length_eq_zero h2
   exact ⟨by rw [he,h1],hb⟩
theorem compactC:CompactC Tryz.prog 177 where
 known:=⟨Tryz.f177,Tryz.func177,rfl,by kernel_rfl⟩
 run:=fun blk off cap zs w hH hb hl=>Any.slices_Compact_int Tryz.laysNm220 blk off cap zs w hH hb hl
 nil:=fun A cap w=>Any.slices_Compact_int_empty Tryz.laysNm220 A cap w
theorem cloneC:CloneC Tryz.prog 87 3 where
 known:=⟨Tryz.f87,Tryz.func87,rfl,by kernel_rfl⟩
 run:=fun b off n c zs w hz hb hc=>Any.slices_Clone_int Tryz.laysNm215 b off n c zs w hz hb hc
 nil:=fun n c w=>Any.slices_Clone_int_nil Tryz.laysNm215 n c w
 zero:=fun a c w=>Any.slices_Clone_int_zero Tryz.laysNm215 a c w
theorem zgn:(Tryz.prog.info? 112).isSome=true:=by kernel_rfl
theorem cloneZC:CloneZC Tryz.prog 82 112 3 where
 base:={
  known:=⟨Tryz.f82,Tryz.func82,rfl,by kernel_rfl⟩
  pos:=by decide
  run:=fun b off n c news w hl hn hc h1=>by
   have hmax:(1099511627776:Nat)≤maxLen:=by decide
   exact (AnyE.slices_Clone Tryz.laysSlE041_f166 ((Tryz.prog.info? 112).get zgn) (.agg #[.string ⟨#[]⟩,.int .i64 0,.bool false]) 3 32 (Option.some_get zgn).symm (by kernel_rfl) (by kernel_rfl) (by kernel_rfl) rfl (by decide) Tryz.sizeOf112 b off n c news w hl (by omega) (by omega) hc h1).mono fun ex w' ⟨v',q1,q2,_,q3⟩=>⟨v',q1,q2,q3⟩}
 nil:=fun n c w=>AnyE.slices_Clone_nil Tryz.laysSlE041_f166 n c w
 zero:=fun a c w=>zkn Tryz.laysSlE041_f166 ((Tryz.prog.info? 112).get zgn) (.agg #[.string ⟨#[]⟩,.int .i64 0,.bool false]) 3 32 (Option.some_get zgn).symm (by kernel_rfl) (by kernel_rfl) (by kernel_rfl) rfl (by decide) Tryz.sizeOf112 a c w
theorem ht (w:World) (k:Int) (h0:0≤k) (h1:k≤4611686018427387904):Calls Tryz.prog 97 #[.int .i64 k] w fun e w'=>e=.returned (.string ⟨(mt k).toArray⟩)∧Below w.heap.size w w':=by
 have he:C0 3000 97 [.d (.int .i64 k)]=some [(false,[.d (.str (mt k))])]:=(show C0 (2999+1) 97 [.d (.int .i64 k)]=zc5 P hs (C0 2999) 97 2999 Tryz.f97 [.d (.int .i64 k)] by kernel_rfl).trans (e103 2999 (C0 2999) k h0 h1 (by omega))
 refine ((bare 3000).plain 97 _ _ he w (fun _=>False) (fun _=>False) #[.int .i64 k] (fun _ h=>h.elim) (fun _ h=>h.elim) ⟨rfl,fun j a ha=>?_⟩ trivial).mono fun e w' ⟨v,S',mr,he,hb,_,_,hr,_⟩=>?_
 ·cases j with
  | zero=>cases ha;exact ⟨_,rfl,RD.int .i64 k⟩
  | succ j=>simp at ha
 ·obtain ⟨⟨us,h1,h2,h3⟩,_⟩:=hr
  obtain ⟨u,hu,hone⟩:=h3 0 _ rfl
  simp only [List.length_cons,List.length_nil] at h2
  obtain ⟨u',rfl⟩:=List.length_eq_one_iff.1 h2
  simp only [List.getElem?_cons_zero,Option.some.injEq] at hu
  subst hu
  obtain ⟨l,hl,hrl⟩:=hone
  cases hl
  have hrl:RD w' S' (fun _=>False) u' (.str (mt k)):=hrl
  refine ⟨?_,hb⟩
  rw [he,h1]
  generalize hX:mt k=X at hrl ⊢
  generalize hY:D.str X=Y at hrl
  cases hrl with
  | str b =>
   cases hY
   simp
  | _=>cases hY
theorem zoM:PrimOk Tryz.prog noG 17 (za9 true (mkAg (zaO mt))):=zeM ⟨Tryz.f17,Tryz.func17,rfl,by kernel_rfl⟩ (AggC.cells (Tryz.mInstance ht) zmy)
theorem zmf:zbo Tryz.prog hs (fun _=>none) 8 150 [.d (.list 2 []),.d (.fn 77 [])]=some []:=by kernel_rfl
theorem zoY (A:Option Addr) (w:World):Calls Tryz.prog 150 #[.slice A 0 0,.func (.func 77) #[] #[]] w fun e w'=>e=.returned (.tuple #[])∧Below w.heap.size w w':=by
 refine ((bare 8).plain 150 _ _ zmf w (fun _=>False) (fun _=>False) #[.slice A 0 0,.func (.func 77) #[] #[]] (fun _ h=>h.elim) (fun _ h=>h.elim) ⟨rfl,fun j a ha=>?_⟩ trivial).mono fun e w' ⟨v,S',mr,he,hb,_,_,hr,_⟩=>?_
 ·match j,ha with
  | 0,ha=>cases ha;exact ⟨_,rfl,RD.nil A 2⟩
  | 1,ha=>cases ha;exact ⟨_,rfl,RD.fn 77 #[] [] (fun _ _=>undef) rfl (fun j xs h=>by simp at h) (fun j c x h=>by simp [zk] at h)⟩
  | j+2,ha=>simp at ha
 ·obtain ⟨⟨vs,h1,h2,_⟩,_⟩:=hr
  obtain rfl:=List.eq_nil_of_length_eq_zero h2
  exact ⟨by rw [he,h1],hb⟩
theorem znb {w:World} {S:Nat→Prop} {blk m:Nat} {dk:Array (HdA w S)} {os:Array Obj}:w.heap.size≤(Go.Proofs.sortWorldK encA 2 w blk 0 m dk os).heap.size:=size_sortWorldK_c encA 2 w blk 0 m dk os
theorem sortAC:SortAC Tryz.prog 150 77 where
 known:=⟨Tryz.f150,Tryz.func150,rfl,by kernel_rfl⟩
 run:=fun w S blk cap d hS hn hH hb hsz=>AnyQ.slices_SortFunc Tryz.laysSlF06_f168 2 Tryz.isAgg114 Tryz.sizeOf114 encA zjN zeF zeB zp2 77 #[] blk 0 cap d w (enters_of Tryz.func77 (by kernel_rfl) rfl)
  (fun m os dk hs x y=>Tryz.cmp88 hS (zcy (enc:=id) (Go.Sort.flatK encA 2 dk) hS hn) znb x y) hH hb hsz
 nil:=fun A w=>zoY A w
theorem compAI:CompAI Tryz.prog 151 152 where
 known:=⟨Tryz.f151,Tryz.func151,rfl,by kernel_rfl⟩
 run:=fun w S blk cap d hS hn hH hb hsz hcap=>by
  have hix:(ixs d).map (decX (zcN w S) d)=d:=zkK _ _
  have hH':Go.Sort.HoldsK (fun x=>encA (decX (zcN w S) d x)) 2 w blk 0 (ixs d):=by
   unfold Go.Sort.HoldsK at hH ⊢
   rw [ziE,hix]
   exact hH
  have hc:=Tryz.compactFacts (fun x=>encA (decX (zcN w S) d x)) (fun x=>lstA (decX (zcN w S) d x)) none rfl 152 blk 0 cap (ixs d) w ⟨fun x=>zjN _,fun x=>zeF _,hH',hb⟩ (enters_of Tryz.func152 (by kernel_rfl) rfl)
   (fun m os dk hs x y=>by
    rw [zeq]
    exact Tryz.eq90 hS (zcy (enc:=id) (Go.Sort.flatK encA 2 (dk.map (decX (zcN w S) d))) hS hn) znb (decX (zcN w S) d x) (decX (zcN w S) d y)) (by rw [zdz];exact hsz) (by rw [zdz];exact hcap)
  rw [zdz] at hc
  refine hc.mono fun e w' ⟨dk,kk,h1,h2,⟨n,os,h3⟩,h4,h5⟩=>⟨dk.map (decX (zcN w S) d),kk,n,os,h1,by rw [Array.size_map,h2,zdz],by rw [h3,zeq],by rw [zdz] at h4;exact h4,?_,fun h hh=>?_⟩
  ·rw [← zmp,h5,znv]
  ·rcases znw (zcN w S) d dk h hh with hm | rfl
   ·exact .inl hm
   ·exact .inr rfl
 nil:=fun A cap w=>Tryz.cfa_nil A cap w
theorem repC:RepC Tryz.prog 210 3 where
 known:=⟨Tryz.f210,Tryz.func210,rfl,by kernel_rfl⟩
 run:=fun b o c w hx hb=>Tryz.repeat_walk b o c w hx hb
theorem zoP:PrimOk Tryz.prog noG 18 (za9 false (mkLs 5 (zO zbd))):=zeM ⟨Tryz.f18,Tryz.func18,rfl,by kernel_rfl⟩ (ListC.cells Tryz.mDepS fun xs k xs' k' h=>zbF h)
theorem zoO:PrimOk Tryz.prog noG 20 (za9 true (mkAg (zbO mt))):=zeM ⟨Tryz.f20,Tryz.func20,rfl,by kernel_rfl⟩ (AggC.cells (Tryz.mResult ht) znB)
theorem zoN:PrimOk Tryz.prog noG 19 (za9 false (mkLs 1 (zO zaT))):=zeM ⟨Tryz.f19,Tryz.func19,rfl,by kernel_rfl⟩ (ListC.cells Tryz.mIntS fun xs k xs' k' h=>zbF h)
theorem znc (k:Nat):Sound Tryz.prog noG (C k):=zft (zcR mixed) (zfI ok) (zgW (by
 intro x hx
 simp only [List.mem_cons,List.not_mem_nil,or_false] at hx
 rcases hx with rfl | rfl | rfl | rfl | rfl | rfl | rfl | rfl | rfl | rfl | rfl | rfl
 ·exact sortC.ok
 ·exact compactC.ok
 ·exact cloneC.ok
 ·exact cloneZC.ok
 ·exact sortAC.okG
 ·exact compAI.ok
 ·exact repC.ok
 ·exact zoM
 ·exact zoP
 ·exact zoO
 ·exact zoN
 ·exact zpU cloneC)) k
end Go.Proofs.YtiacahdabflcdaaGreat.Q

/-
Towards the law: a machine that runs the program's own code on plain data, its soundness, the library by its contracts, and what the functions compute: part 2. No condition.
-/
import Derived.Test.YtiacahdabflcdaaGreatCa
import Derived.Orders
import Derived.LoopN
import Derived.DataReads
import Derived.WalkKit
import Derived.ProofKit
import Derived.OpenShut
import Derived.ShutString
import Derived.ChangeOld
import Derived.Tactics
import Derived.Sort.Grow
import Derived.Lib.SlicesCompact
import Derived.Lib.Join
import Derived.Lib.ItoaNum
import Derived.Lib.LaidTab
import Derived.Lib.AppendIntMem
set_option linter.unusedVariables false
set_option linter.unusedSimpArgs false
namespace Ovi
open Go Go.RowKit
section
variable {P:Program} {call:zi} {base:Nat} {w0 w:World} {S0 S S1 T T':Nat→Prop} {hp hp':Hp} {m:MapM} {l l':Log} {B:Nat} {mr:Nat→Nat→Option Nat} {r:Res} {D:Nat→Nat→Prop}
def Pend (S:Nat→Prop) (hp:Hp) (m:MapM) (mr:Nat→Nat→Option Nat) (r:Res) (D:Nat→Nat→Prop):Prop :=
 ∀ i j b,D i j→zZ (zR r i j)=true→mr i j=some b→¬ S b∧∀ id,hot (hp id)=true→m id≠some b
def zfd (mr:Nat→Nat→Option Nat) (r:Res):Prop:=∀ i j i' j' b,zZ (zR r i j)=true→zZ (zR r i' j')=true→mr i j=some b→mr i' j'=some b→i=i'∧j=j'
abbrev RRs:=Nat→Nat→Nat→Nat→Nat→Prop
def PendC (base:Nat) (w:World) (S T:Nat→Prop) (hp:Hp) (m:MapM) (RR:RRs) (D:Nat→Nat→Prop):Prop :=
 ∃ G,Cl base w S T hp m G∧∀ i j a c k,D i j→RR i j a c k→(S k∧base≤k∧¬ T k)∧∀ id i' c',¬ G id i' c' k
def zf3 (RR:RRs):Prop:=∀ i j a c i' j' a' c' k,RR i j a c k→RR i' j' a' c' k→(i=i'∧j=j')∧a=a'∧c=c'
def zhj (w:World) (mr:Nat→Nat→Option Nat) (r:Res) (RR:RRs) (i j:Nat):Prop:=∀ e sz d xs,zR r i j=some (.frow e sz d xs)→∀ b cur,mr i j=some b→w.heap[b]? = some (.cells cur e (0,0))→∀ a c x u,zk xs a c=some x→cur[a * sz+c]? = some u→Fo d w u x (RR i j a c)
structure Imp (base:Nat) (w0 w:World) (S0 S S' T:Nat→Prop) (hp hp':Hp) (m m':MapM) (mr:Nat→Nat→Option Nat) (r:Res) (RR:RRs) (D:Nat→Nat→Prop):Prop where
 step:Step base w0 w w S0 S S' T hp hp' m m'
 pend:Pend S' hp' m' mr r D
 pendC:PendC base w S' T hp' m' RR D
theorem PendC.sub {S:Nat→Prop} {hp:Hp} {m:MapM} {base:Nat} {w:World} {RR:RRs} {D D':Nat→Nat→Prop} (h:PendC base w S T hp m RR D) (hD:∀ i j,D' i j→D i j):PendC base w S T hp m RR D' :=
 let ⟨G,h1,h2⟩:=h;⟨G,h1,fun i j a c k hd=>h2 i j a c k (hD i j hd)⟩
theorem PendC.take (hI:Inv base w0 w S0 S T hp m) {RR:RRs} {D D':Nat→Nat→Prop} (h:PendC base w S T hp m RR D) (hRi:zf3 RR) (hD:∀ i j,D' i j→D i j) {i j:Nat} (hDij:D i j) (hij:¬ D' i j) {id b e sz d:Nat} {xs:Rows} {cur:Array Value} (hc:w.heap[b]? = some (.cells cur e (0,0)))
  (h3:∀ i k x,zk xs i k=some x→∃ v,cur[i * sz+k]? = some v) (hF:0 < d→∀ a c x u,zk xs a c=some x→cur[a * sz+c]? = some u→Fo d w u x (RR i j a c)) :
  PendC base w S T (updH hp id (some (.arr e sz 0 xs (d,0,0)))) (updM m id (some b)) RR D':=by
 obtain ⟨G,hG,hp0⟩:=h
 obtain ⟨G',g1,g2⟩:=hG.grow' (id:=id) (n:=0) (R:=RR i j) ⟨fun a c k hk=>(hp0 i j a c k hDij hk).1,fun a c k hk=>(hp0 i j a c k hDij hk).2,fun a c a' c' k h h'=>(hRi _ _ _ _ _ _ _ _ _ h h').2⟩ (Stab.refl _ _) (blk':=.arr e sz 0 xs (d,0,0)) (mo':=some b) (fun _ _ _ _ _=>rfl) (fun e1 sz1 ver1 xs1 d1 lo cv b1 cur1 k1 k2 k3 k4 a c x _ hx=>by
  cases k1
  cases k3
  rw [hc] at k4
  cases k4
  obtain ⟨u,hu⟩:=h3 a c x hx
  exact ⟨u,hu,.inr ⟨Nat.zero_le _,hF k2 a c x u hx hu⟩⟩)
 refine ⟨G',g1,fun i' j' a c k hd hk=>⟨(hp0 i' j' a c k (hD _ _ hd) hk).1,fun id' i'' c' hg=>?_⟩⟩
 rcases g2 _ _ _ _ hg with ⟨x,y,z,hg⟩ | ⟨y,z,hg⟩
 ·exact (hp0 i' j' a c k (hD _ _ hd) hk).2 _ _ _ hg
 ·obtain ⟨⟨rfl,rfl⟩,_⟩:=hRi _ _ _ _ _ _ _ _ _ hk hg
  exact hij hd
theorem zck (hp0:Pend S hp m mr r D) {D':Nat→Nat→Prop} (hD:∀ i j,D' i j→D i j) {S':Nat→Prop} {hp':Hp} {m':MapM} {i j:Nat} (hij:¬ D' i j) (hinj:zfd mr r) (hrow:zZ (zR r i j)=true)
  (hS:∀ k,S' k→S k∨mr i j=some k) (hm:∀ id b,hot (hp' id)=true→m' id=some b→(hot (hp id)=true∧m id=some b)∨mr i j=some b):Pend S' hp' m' mr r D':=by
 intro i' j' b hd hr hb
 obtain ⟨h1,h2⟩:=hp0 i' j' b (hD _ _ hd) hr hb
 have hne:mr i j≠some b:=fun e=>by
  obtain ⟨rfl,rfl⟩:=hinj _ _ _ _ b hrow hr e hb
  exact hij hd
 refine ⟨fun hs=>?_,fun id hho he=>?_⟩
 ·rcases hS b hs with h | h
  ·exact h1 h
  ·exact hne h
 ·rcases hm id b hho he with h | h
  ·exact h2 id h.1 h.2
  ·exact hne h
theorem Pend.sub {D':Nat→Nat→Prop} (h:Pend S hp m mr r D) (hD:∀ i j,D' i j→D i j):Pend S hp m mr r D':=fun i j b hd=>h i j b (hD i j hd)
theorem zbU {N n i j:Nat} {b:Bool} {x:RL} (h:zaf N b n r i j=some x):zR r i j=some x:=by
 obtain ⟨_,ls,h1,_,h3⟩:=zbr h
 simp [zR,h1,h3]
theorem zhA {bs N n i j:Nat} {b:Bool} {k:RK} {u:Value} {x:AV} {RR:RRs} {D':Nat→Nat→Prop} (hI:Inv base w0 w S0 S T hp m) (hPC:PendC base w S T hp m RR D) (hRi:zf3 RR) (hF:zhj w mr r RR i j) (hB:base≤B) (h1S:RK.ref P k=true→∀ k,S1 k→S k) (hP:Pend S hp m mr r D) (hinj:zfd mr r) (hD:∀ i j,D' i j→D i j) (hDij:D i j) (hij:¬ D' i j)
  (hu:∀ y,zR r i j=some y→rlC w S1 T' B (mr i j) u y) (h:(zec r bs N b n i j k).run call hp l=some (x,hp',l')) :
  ∃ S' m',Imp base w0 w S0 S S' T hp hp' m m' mr r RR D'∧leafC w S' T hp' m' u x:=by
 cases k with
 | int k =>
  obtain ⟨a,ha,h⟩:=zee h
  obtain ⟨rfl,rfl⟩:=ze h
  obtain ⟨y,hy,ha⟩:=Option.bind_eq_some_iff.1 ha
  have hu:=hu y (zbU hy)
  cases y<;>simp only [reduceCtorEq] at ha
  obtain rfl:=zjC ha
  exact ⟨S,m,⟨Step.refl hI,hP.sub hD,hPC.sub hD⟩,by cases hu;exact .int _ _⟩
 | bool =>
  obtain ⟨a,ha,h⟩:=zge h
  obtain ⟨rfl,rfl⟩:=ze h
  obtain ⟨y,hy,ha⟩:=Option.bind_eq_some_iff.1 ha
  have hu:=hu y (zbU hy)
  cases y<;>simp only [reduceCtorEq] at ha
  obtain rfl:=zjB ha
  exact ⟨S,m,⟨Step.refl hI,hP.sub hD,hPC.sub hD⟩,by cases hu;exact .bool _⟩
 | str =>
  obtain ⟨a,ha,h⟩:=zef h
  obtain ⟨rfl,rfl⟩:=ze h
  obtain ⟨y,hy,ha⟩:=Option.bind_eq_some_iff.1 ha
  have hu:=hu y (zbU hy)
  cases y<;>simp only [reduceCtorEq] at ha
  obtain rfl:=zjE ha
  exact ⟨S,m,⟨Step.refl hI,hP.sub hD,hPC.sub hD⟩,by cases hu;exact .str _⟩
 | ro sz =>
  obtain ⟨a,ha,h⟩:=zat h
  obtain ⟨rfl,rfl⟩:=ze h
  obtain ⟨y,hy,hb⟩:=Option.bind_eq_some_iff.1 ha
  have hl:=zbU hy
  have hu:=hu y hl
  cases y with
  | d y =>
   exact ⟨S,m,⟨Step.refl hI,hP.sub hD,hPC.sub hD⟩,((zjD hb hu).mono (Stab.refl _ _) (Stab.refl _ _) (h1S rfl) fun _ h=>h).noFn rfl⟩
  | row e sz' xs =>
   clear ha
   simp only [] at hb
   split at hb
   ·rename_i hs
    subst hs
    cases hb
    have hrow:zZ (zR r i j)=true:=by rw [hl];rfl
    have hfresh:∀ b,mr i j=some b→base≤b∧b < w.heap.size∧¬ S b∧∀ id,hot (hp' id)=true→m id≠some b:=by
     intro b hb
     obtain ⟨q1,q2⟩:=hP i j b hDij hrow hb
     have hr:=hu.2.2
     rw [hb] at hr
     obtain ⟨r1,r2,cur,r3,_⟩:=hr
     exact ⟨Nat.le_trans hB r1,z6 r3,q1,q2⟩
    obtain ⟨q1,q2⟩:=hI.moreS (S':=fun k=>S k∨mr i j=some k) (fun k hk=>.inl hk) (fun k hk=>by
     rcases hk with hk | hk
     ·exact .inl hk
     ·obtain ⟨f1,f2,f3,f4⟩:=hfresh k hk;exact .inr ⟨f1,f2,f4⟩)
    exact ⟨_,m,⟨⟨q1,fun _ h=>.inl h,Nat.le_refl _,q2⟩,zck hP hD hij hinj hrow (fun k hk=>hk) (fun id b ho hb=>.inl ⟨ho,hb⟩),let ⟨G,g1,g2⟩:=hPC;⟨G,g1.moreS fun _ h=>.inl h,fun i' j' a c k hd hk=>⟨⟨.inl (g2 i' j' a c k (hD _ _ hd) hk).1.1,(g2 i' j' a c k (hD _ _ hd) hk).1.2⟩,(g2 i' j' a c k (hD _ _ hd) hk).2⟩⟩⟩,rowC.rd hu (fun k hk=>.inl (h1S rfl k hk)) (fun b hb=>.inr hb)⟩
   ·cases hb
  | frow e sz' dd xs =>
   clear ha
   simp only [] at hb
   split at hb
   ·rename_i hs
    subst hs
    cases hb
    have hrow:zZ (zR r i j)=true:=by rw [hl];rfl
    have hfresh:∀ b,mr i j=some b→base≤b∧b < w.heap.size∧¬ S b∧∀ id,hot (hp' id)=true→m id≠some b:=by
     intro b hb
     obtain ⟨q1,q2⟩:=hP i j b hDij hrow hb
     have hr:=hu.2.2
     rw [hb] at hr
     obtain ⟨r1,r2,cur,r3,_⟩:=hr
     exact ⟨Nat.le_trans hB r1,z6 r3,q1,q2⟩
    obtain ⟨q1,q2⟩:=hI.moreS (S':=fun k=>S k∨mr i j=some k) (fun k hk=>.inl hk) (fun k hk=>by
     rcases hk with hk | hk
     ·exact .inl hk
     ·obtain ⟨f1,f2,f3,f4⟩:=hfresh k hk;exact .inr ⟨f1,f2,f4⟩)
    exact ⟨_,m,⟨⟨q1,fun _ h=>.inl h,Nat.le_refl _,q2⟩,zck hP hD hij hinj hrow (fun k hk=>hk) (fun id b ho hb=>.inl ⟨ho,hb⟩),let ⟨G,g1,g2⟩:=hPC;⟨G,g1.moreS fun _ h=>.inl h,fun i' j' a c k hd hk=>⟨⟨.inl (g2 i' j' a c k (hD _ _ hd) hk).1.1,(g2 i' j' a c k (hD _ _ hd) hk).1.2⟩,(g2 i' j' a c k (hD _ _ hd) hk).2⟩⟩⟩,rowC.rd hu (fun k hk=>.inl (h1S rfl k hk)) (fun b hb=>.inr hb)⟩
   ·cases hb
  | nil =>
   cases hb
   obtain ⟨A,rfl⟩:=hu
   exact ⟨S,m,⟨Step.refl hI,hP.sub hD,hPC.sub hD⟩,RD.nil A sz⟩
 | own e sz =>
  obtain ⟨xs,ha,h⟩:=zat h
  obtain ⟨_,h1,l1,hn,g⟩:=bind_some h
  obtain ⟨rfl,rfl⟩:=ze g
  clear g h
  simp only [newB,HA.run] at hn
  split at hn
  ·rename_i hid
   simp only [HA.run,Option.some.injEq,Prod.mk.injEq] at hn
   obtain ⟨_,rfl,_⟩:=hn
   obtain ⟨y,hy,hb⟩:=Option.bind_eq_some_iff.1 ha
   have hl:=zbU hy
   have hu:=hu y hl
   have newNil:∀ A,u=.slice A 0 0→xs=[]→∃ S' m',Imp base w0 w S0 S S' T hp (updH hp (bs+i * 8+j) (some (.arr e sz 0 xs (0,0,0)))) m m' mr r RR D'∧leafC w S' T (updH hp (bs+i * 8+j) (some (.arr e sz 0 xs (0,0,0)))) m' u (.own (bs+i * 8+j) 0):=by
    intro A hA hx
    subst hA hx
    obtain ⟨q1,q2⟩:=hI.newNil hid e sz 0 (0,0,0)
    refine ⟨S,_,⟨⟨q1,fun _ h=>h,Nat.le_refl _,q2⟩,fun i' j' b hd hr hb=>?_,let ⟨G,g1,g2⟩:=hPC;⟨G,g1.newNil _ _,fun i' j' a c k hd hk=>g2 i' j' a c k (hD _ _ hd) hk⟩⟩,?_⟩
    ·obtain ⟨f1,f2⟩:=hP i' j' b (hD _ _ hd) hr hb
     refine ⟨f1,fun id hho he=>?_⟩
     have hne:id≠bs+i * 8+j:=fun e=>by rw [e,zH] at he;cases he
     rw [zA hne] at hho
     rw [zP hne] at he
     exact f2 id hho he
    ·simp only [leafC,zr,zH]
     exact ⟨rfl,Nat.le_refl _,fun _=>⟨rfl,A,rfl⟩⟩
   cases y with
   | d y=>cases hb
   | nil =>
    cases hb
    obtain ⟨A,rfl⟩:=hu
    exact newNil A rfl rfl
   | row e' sz' xs' =>
    clear ha
    simp only [] at hb
    split at hb
    ·rename_i hs
     obtain ⟨rfl,rfl⟩:=hs
     cases hb
     have hrow:zZ (zR r i j)=true:=by rw [hl];rfl
     obtain ⟨u1,u2,u3⟩:=hu
     cases hmr:mr i j with
     | none =>
      rw [hmr] at u2 u3
      subst u3
      obtain ⟨_,A,hA⟩:=u2
      exact newNil A hA rfl
     | some b =>
      rw [hmr] at u2 u3
      obtain ⟨f1,f2⟩:=hP i j b hDij hrow hmr
      obtain ⟨v1,v2,cur,v3,v4,v5⟩:=u3
      have hPN:=hPC.take (id:=bs+i * 8+j) (d:=0) hI hRi hD hDij hij v3 (fun i k x hk=>let ⟨_,v,p2,_⟩:=v5 i k x hk;⟨v,p2⟩) (fun h=>absurd h (Nat.lt_irrefl 0))
      obtain ⟨q1,q2⟩:=hI.adopt (let ⟨G,g1,_⟩:=hPN;⟨G,g1⟩) hid (Nat.le_trans hB v1) f1 f2 v3 u1 v4 (fun i k x hk=>by
       obtain ⟨p1,v,p2,p3⟩:=v5 i k x hk
       exact ⟨p1,v,p2,(p3.mono (Stab.refl _ _) (Stab.refl _ _) (h1S rfl) fun _ h=>h).noFn p1⟩)
      refine ⟨S,_,⟨⟨q1,fun _ h=>h,Nat.le_refl _,q2⟩,zck hP hD hij hinj hrow (fun k hk=>.inl hk) (fun id b' ho hb=>?_),hPN⟩,?_⟩
      ·by_cases hne:id=bs+i * 8+j
       ·subst hne
        rw [zH] at hb
        exact .inr (hmr.trans hb)
       ·rw [zA hne] at ho
        rw [zP hne] at hb
        exact .inl ⟨ho,hb⟩
      ·simp only [leafC,zr,zH]
       obtain ⟨cap,cur',hc1,hc2⟩:=u2
       exact ⟨by rw [hc1];rfl,Nat.le_refl _,fun _=>⟨cap,cur',hc1,hc2⟩⟩
    ·cases hb
   | frow e' sz' dd xs' =>
    clear ha
    simp only [] at hb
    split at hb
    ·rename_i hs
     obtain ⟨rfl,rfl⟩:=hs
     cases hb
     have hrow:zZ (zR r i j)=true:=by rw [hl];rfl
     obtain ⟨u1,u2,u3⟩:=hu
     cases hmr:mr i j with
     | none =>
      rw [hmr] at u2 u3
      subst u3
      obtain ⟨_,A,hA⟩:=u2
      exact newNil A hA rfl
     | some b =>
      rw [hmr] at u2 u3
      obtain ⟨f1,f2⟩:=hP i j b hDij hrow hmr
      obtain ⟨v1,v2,cur,v3,v4,v5⟩:=u3
      have hPN:=hPC.take (id:=bs+i * 8+j) (d:=0) hI hRi hD hDij hij v3 (fun i k x hk=>let ⟨_,v,p2,_⟩:=v5 i k x hk;⟨v,p2⟩) (fun h=>absurd h (Nat.lt_irrefl 0))
      obtain ⟨q1,q2⟩:=hI.adopt (let ⟨G,g1,_⟩:=hPN;⟨G,g1⟩) hid (Nat.le_trans hB v1) f1 f2 v3 u1 v4 (fun i k x hk=>by
       obtain ⟨p1,v,p2,p3⟩:=v5 i k x hk
       exact ⟨p1,v,p2,(p3.mono (Stab.refl _ _) (Stab.refl _ _) (h1S rfl) fun _ h=>h).noFn p1⟩)
      refine ⟨S,_,⟨⟨q1,fun _ h=>h,Nat.le_refl _,q2⟩,zck hP hD hij hinj hrow (fun k hk=>.inl hk) (fun id b' ho hb=>?_),hPN⟩,?_⟩
      ·by_cases hne:id=bs+i * 8+j
       ·subst hne
        rw [zH] at hb
        exact .inr (hmr.trans hb)
       ·rw [zA hne] at ho
        rw [zP hne] at hb
        exact .inl ⟨ho,hb⟩
      ·simp only [leafC,zr,zH]
       obtain ⟨cap,cur',hc1,hc2⟩:=u2
       exact ⟨by rw [hc1];rfl,Nat.le_refl _,fun _=>⟨cap,cur',hc1,hc2⟩⟩
    ·cases hb
  ·cases hn
 | fown e sz d =>
  obtain ⟨xs,ha,h⟩:=zat h
  obtain ⟨_,h1,l1,hn,g⟩:=bind_some h
  obtain ⟨rfl,rfl⟩:=ze g
  clear g h
  simp only [newB,HA.run] at hn
  split at hn
  ·rename_i hid
   simp only [HA.run,Option.some.injEq,Prod.mk.injEq] at hn
   obtain ⟨_,rfl,_⟩:=hn
   obtain ⟨y,hy,hb⟩:=Option.bind_eq_some_iff.1 ha
   have hl:=zbU hy
   have hu:=hu y hl
   have newNil:∀ A,u=.slice A 0 0→xs=[]→∃ S' m',Imp base w0 w S0 S S' T hp (updH hp (bs+i * 8+j) (some (.arr e sz 0 xs (d,0,0)))) m m' mr r RR D'∧leafC w S' T (updH hp (bs+i * 8+j) (some (.arr e sz 0 xs (d,0,0)))) m' u (.own (bs+i * 8+j) 0):=by
    intro A hA hx
    subst hA hx
    obtain ⟨q1,q2⟩:=hI.newNil hid e sz 0 (d,0,0)
    refine ⟨S,_,⟨⟨q1,fun _ h=>h,Nat.le_refl _,q2⟩,fun i' j' b hd hr hb=>?_,let ⟨G,g1,g2⟩:=hPC;⟨G,g1.newNil _ _,fun i' j' a c k hd hk=>g2 i' j' a c k (hD _ _ hd) hk⟩⟩,?_⟩
    ·obtain ⟨f1,f2⟩:=hP i' j' b (hD _ _ hd) hr hb
     refine ⟨f1,fun id hho he=>?_⟩
     have hne:id≠bs+i * 8+j:=fun e=>by rw [e,zH] at he;cases he
     rw [zA hne] at hho
     rw [zP hne] at he
     exact f2 id hho he
    ·simp only [leafC,zr,zH]
     exact ⟨rfl,Nat.le_refl _,fun _=>⟨rfl,A,rfl⟩⟩
   cases y with
   | d y=>cases hb
   | nil =>
    cases hb
    obtain ⟨A,rfl⟩:=hu
    exact newNil A rfl rfl
   | row e' sz' xs'=>cases hb
   | frow e' sz' dd xs' =>
    clear ha
    simp only [] at hb
    split at hb
    ·rename_i hs
     obtain ⟨rfl,rfl,hdd⟩:=hs
     cases hb
     have hrow:zZ (zR r i j)=true:=by rw [hl];rfl
     obtain ⟨u1,u2,u3⟩:=hu
     cases hmr:mr i j with
     | none =>
      rw [hmr] at u2 u3
      subst u3
      obtain ⟨_,A,hA⟩:=u2
      exact newNil A hA rfl
     | some b =>
      rw [hmr] at u2 u3
      obtain ⟨f1,f2⟩:=hP i j b hDij hrow hmr
      obtain ⟨v1,v2,cur,v3,v4,v5⟩:=u3
      have hPN:=hPC.take (id:=bs+i * 8+j) (d:=d) hI hRi hD hDij hij v3 (fun i k x hk=>let ⟨_,v,p2,_⟩:=v5 i k x hk;⟨v,p2⟩) (fun _ a c x u hx hu=>(hF _ _ _ _ hl b cur hmr v3 a c x u hx hu).down hdd)
      obtain ⟨q1,q2⟩:=hI.adopt (let ⟨G,g1,_⟩:=hPN;⟨G,g1⟩) hid (Nat.le_trans hB v1) f1 f2 v3 u1 v4 (fun i k x hk=>by
       obtain ⟨p1,v,p2,p3⟩:=v5 i k x hk
       exact ⟨p1,v,p2,(p3.mono (Stab.refl _ _) (Stab.refl _ _) (h1S rfl) fun _ h=>h).noFn p1⟩)
      refine ⟨S,_,⟨⟨q1,fun _ h=>h,Nat.le_refl _,q2⟩,zck hP hD hij hinj hrow (fun k hk=>.inl hk) (fun id b' ho hb=>?_),hPN⟩,?_⟩
      ·by_cases hne:id=bs+i * 8+j
       ·subst hne
        rw [zH] at hb
        exact .inr (hmr.trans hb)
       ·rw [zA hne] at ho
        rw [zP hne] at hb
        exact .inl ⟨ho,hb⟩
      ·simp only [leafC,zr,zH]
       obtain ⟨cap,cur',hc1,hc2⟩:=u2
       exact ⟨by rw [hc1];rfl,Nat.le_refl _,fun _=>⟨cap,cur',hc1,hc2⟩⟩
    ·cases hb
  ·cases hn
 | xown e sz d =>
  obtain ⟨xs,ha,h⟩:=zat h
  obtain ⟨hdep,h⟩:=zbD h
  obtain ⟨_,h1,l1,hn,g⟩:=bind_some h
  obtain ⟨rfl,rfl⟩:=ze g
  clear g h
  simp only [newB,HA.run] at hn
  split at hn
  ·rename_i hid
   simp only [HA.run,Option.some.injEq,Prod.mk.injEq] at hn
   obtain ⟨_,rfl,_⟩:=hn
   obtain ⟨y,hy,hb⟩:=Option.bind_eq_some_iff.1 ha
   have hl:=zbU hy
   have hu:=hu y hl
   have newNil:∀ A,u=.slice A 0 0→xs=[]→∃ S' m',Imp base w0 w S0 S S' T hp (updH hp (bs+i * 8+j) (some (.arr e sz 0 xs (d,0,0)))) m m' mr r RR D'∧leafC w S' T (updH hp (bs+i * 8+j) (some (.arr e sz 0 xs (d,0,0)))) m' u (.own (bs+i * 8+j) 0):=by
    intro A hA hx
    subst hA hx
    obtain ⟨q1,q2⟩:=hI.newNil hid e sz 0 (d,0,0)
    refine ⟨S,_,⟨⟨q1,fun _ h=>h,Nat.le_refl _,q2⟩,fun i' j' b hd hr hb=>?_,let ⟨G,g1,g2⟩:=hPC;⟨G,g1.newNil _ _,fun i' j' a c k hd hk=>g2 i' j' a c k (hD _ _ hd) hk⟩⟩,?_⟩
    ·obtain ⟨f1,f2⟩:=hP i' j' b (hD _ _ hd) hr hb
     refine ⟨f1,fun id hho he=>?_⟩
     have hne:id≠bs+i * 8+j:=fun e=>by rw [e,zH] at he;cases he
     rw [zA hne] at hho
     rw [zP hne] at he
     exact f2 id hho he
    ·simp only [leafC,zr,zH]
     exact ⟨rfl,Nat.le_refl _,fun _=>⟨rfl,A,rfl⟩⟩
   cases y with
   | d y=>cases hb
   | nil =>
    cases hb
    obtain ⟨A,rfl⟩:=hu
    exact newNil A rfl rfl
   | row e' sz' xs'=>cases hb
   | frow e' sz' dd xs' =>
    clear ha
    simp only [] at hb
    split at hb
    ·rename_i hs
     obtain ⟨rfl,rfl,hdd⟩:=hs
     cases hb
     have hrow:zZ (zR r i j)=true:=by rw [hl];rfl
     obtain ⟨u1,u2,u3⟩:=hu
     cases hmr:mr i j with
     | none =>
      rw [hmr] at u2 u3
      subst u3
      obtain ⟨_,A,hA⟩:=u2
      exact newNil A hA rfl
     | some b =>
      rw [hmr] at u2 u3
      obtain ⟨f1,f2⟩:=hP i j b hDij hrow hmr
      obtain ⟨v1,v2,cur,v3,v4,v5'⟩:=u3
      have v5:∀ i' k x,zk xs i' k=some x→x.isFn=false∧∃ v,cur[i' * sz'+k]? = some v∧RD w S T v x:=fun i' k x hk=>by
       obtain ⟨p1,v,p2,p3⟩:=v5' i' k x hk
       obtain ⟨G0,_,g2⟩:=hPC
       exact ⟨p1,v,p2,(((hF _ _ _ _ hl b cur hmr v3 i' k x v hk p2).down hdd).rd (zdQ hdep hk) p3:RD w (RR i j i' k) T v x).mono (Stab.refl _ _) (Stab.refl _ _) (fun k' hk'=>(g2 i j i' k k' hDij hk').1.1) fun _ h=>h⟩
      have hPN:=hPC.take (id:=bs+i * 8+j) (d:=d) hI hRi hD hDij hij v3 (fun i k x hk=>let ⟨_,v,p2,_⟩:=v5 i k x hk;⟨v,p2⟩) (fun _ a c x u hx hu=>(hF _ _ _ _ hl b cur hmr v3 a c x u hx hu).down hdd)
      obtain ⟨q1,q2⟩:=hI.adopt (let ⟨G,g1,_⟩:=hPN;⟨G,g1⟩) hid (Nat.le_trans hB v1) f1 f2 v3 u1 v4 (fun i k x hk=>by
       obtain ⟨p1,v,p2,p3⟩:=v5 i k x hk
       exact ⟨p1,v,p2,p3⟩)
      refine ⟨S,_,⟨⟨q1,fun _ h=>h,Nat.le_refl _,q2⟩,zck hP hD hij hinj hrow (fun k hk=>.inl hk) (fun id b' ho hb=>?_),hPN⟩,?_⟩
      ·by_cases hne:id=bs+i * 8+j
       ·subst hne
        rw [zH] at hb
        exact .inr (hmr.trans hb)
       ·rw [zA hne] at ho
        rw [zP hne] at hb
        exact .inl ⟨ho,hb⟩
      ·simp only [leafC,zr,zH]
       obtain ⟨cap,cur',hc1,hc2⟩:=u2
       exact ⟨by rw [hc1];rfl,Nat.le_refl _,fun _=>⟨cap,cur',hc1,hc2⟩⟩
    ·cases hb
  ·cases hn
theorem Imp.trans {S' S'':Nat→Prop} {hp'':Hp} {m' m'':MapM} {RR:RRs} {D D':Nat→Nat→Prop} (h:Imp base w0 w S0 S S' T hp hp' m m' mr r RR D) (k:Imp base w0 w S0 S' S'' T hp' hp'' m' m'' mr r RR D'):Imp base w0 w S0 S S'' T hp hp'' m m'' mr r RR D':=⟨h.step.trans k.step,k.pend,k.pendC⟩
theorem zfA {bs N n i:Nat} {b:Bool} {ls:List RL} {cs:Array Value} {RR:RRs} (hRi:zf3 RR) (hB:base≤B) (hinj:zfd mr r) (hls:r[i]? = some (b,ls)) (hcs:∀ (j:Nat) y,ls[j]? = some y→∃ q,cs[j]? = some q∧rlC w S1 T' B (mr i j) q y) :
  ∀ {ks:List RK} {j:Nat} {S:Nat→Prop} {hp hp':Hp} {m:MapM} {l l':Log} {xs:List AV},Inv base w0 w S0 S T hp m→PendC base w S T hp m RR (fun a c=>i < a∨(a=i∧j≤c))→(∀ j,zhj w mr r RR i j)→(ks.any (RK.ref P)=true→∀ k,S1 k→S k)→Pend S hp m mr r (fun a c=>i < a∨(a=i∧j≤c))→(zdS r bs N b n i j ks).run call hp l=some (xs,hp',l') →
   ∃ S' m',Imp base w0 w S0 S S' T hp hp' m m' mr r RR (fun a c=>i < a∨(a=i∧j+ks.length≤c))∧xs.length=ks.length∧∀ (c:Nat) x,xs[c]? = some x→∃ q,cs[j+c]? = some q∧leafC w S' T hp' m' q x
 | [],j,S,hp,hp',m,l,l',xs,hI,hPC,hF,hS,hP,h=>by
  obtain ⟨rfl,rfl⟩:=ze h
  exact ⟨S,m,⟨Step.refl hI,by simpa using hP,by simpa using hPC⟩,rfl,fun c x h=>by simp at h⟩
 | k::ks,j,S,hp,hp',m,l,l',xs,hI,hPC,hF,hS,hP,h=>by
  obtain ⟨x,h1,l1,hx,g⟩:=bind_some h
  obtain ⟨ys,h2,l2,hr,g1⟩:=bind_some g
  obtain ⟨rfl,rfl⟩:=ze g1
  clear h g g1
  have hex:∃ y,ls[j]? = some y:=by
   have:∃ y,zaf N b n r i j=some y:=by
    cases k with
    | int k=>obtain ⟨a,ha,_⟩:=zee hx;obtain ⟨y,hy,_⟩:=Option.bind_eq_some_iff.1 ha;exact ⟨y,hy⟩
    | bool=>obtain ⟨a,ha,_⟩:=zge hx;obtain ⟨y,hy,_⟩:=Option.bind_eq_some_iff.1 ha;exact ⟨y,hy⟩
    | str=>obtain ⟨a,ha,_⟩:=zef hx;obtain ⟨y,hy,_⟩:=Option.bind_eq_some_iff.1 ha;exact ⟨y,hy⟩
    | ro sz=>obtain ⟨a,ha,_⟩:=zat hx;obtain ⟨y,hy,_⟩:=Option.bind_eq_some_iff.1 ha;exact ⟨y,hy⟩
    | own e sz=>obtain ⟨a,ha,_⟩:=zat hx;obtain ⟨y,hy,_⟩:=Option.bind_eq_some_iff.1 ha;exact ⟨y,hy⟩
    | fown e sz d=>obtain ⟨a,ha,_⟩:=zat hx;obtain ⟨y,hy,_⟩:=Option.bind_eq_some_iff.1 ha;exact ⟨y,hy⟩
    | xown e sz d=>obtain ⟨a,ha,_⟩:=zat hx;obtain ⟨y,hy,_⟩:=Option.bind_eq_some_iff.1 ha;exact ⟨y,hy⟩
   obtain ⟨y,hy⟩:=this
   obtain ⟨_,ls',h1,_,h3⟩:=zbr hy
   rw [hls] at h1
   cases h1
   exact ⟨y,h3⟩
  obtain ⟨y,hy⟩:=hex
  obtain ⟨q,hq,hrl⟩:=hcs j y hy
  obtain ⟨S2,m2,i1,c1⟩:=zhA (u:=q) (D':=fun a c=>i < a∨(a=i∧j+1≤c)) (P:=P) hI hPC hRi (hF j) hB (fun h=>hS (by simp [h])) hP hinj (fun a c h=>by omega) (.inr ⟨rfl,Nat.le_refl _⟩) (by omega) (fun y' hy'=>by
   simp only [zR,hls,Option.bind_some] at hy'
   rw [hy] at hy'
   cases hy'
   exact hrl) hx
  obtain ⟨S3,m3,i2,n2,c2⟩:=zfA hRi hB hinj hls hcs i1.step.inv i1.pendC hF (fun h k hk=>i1.step.sub k (hS (by simp [h]) k hk)) i1.pend hr
  refine ⟨S3,m3,⟨i1.step.trans i2.step,i2.pend.sub (fun a c h=>by simp only [List.length_cons] at h;omega),i2.pendC.sub (fun a c h=>by simp only [List.length_cons] at h;omega)⟩,by simp [n2],fun c x' hx'=>?_⟩
  cases c with
  | zero =>
   simp only [List.getElem?_cons_zero,Option.some.injEq] at hx'
   subst hx'
   exact ⟨q,hq,i2.step.ext _ _ c1⟩
  | succ c =>
   obtain ⟨q',h1,h2⟩:=c2 c x' hx'
   exact ⟨q',by rw [show j+(c+1)=j+1+c by omega];exact h1,h2⟩
theorem zfz {bs N n i j:Nat} {b:Bool} {k:RK} {x:AV} (hx:(zec r bs N b n i j k).run call hp l=some (x,hp',l')):∃ y,zaf N b n r i j=some y:=by
 cases k with
 | int k=>obtain ⟨a,ha,_⟩:=zee hx;obtain ⟨y,hy,_⟩:=Option.bind_eq_some_iff.1 ha;exact ⟨y,hy⟩
 | bool=>obtain ⟨a,ha,_⟩:=zge hx;obtain ⟨y,hy,_⟩:=Option.bind_eq_some_iff.1 ha;exact ⟨y,hy⟩
 | str=>obtain ⟨a,ha,_⟩:=zef hx;obtain ⟨y,hy,_⟩:=Option.bind_eq_some_iff.1 ha;exact ⟨y,hy⟩
 | ro sz=>obtain ⟨a,ha,_⟩:=zat hx;obtain ⟨y,hy,_⟩:=Option.bind_eq_some_iff.1 ha;exact ⟨y,hy⟩
 | own e sz=>obtain ⟨a,ha,_⟩:=zat hx;obtain ⟨y,hy,_⟩:=Option.bind_eq_some_iff.1 ha;exact ⟨y,hy⟩
 | fown e sz d=>obtain ⟨a,ha,_⟩:=zat hx;obtain ⟨y,hy,_⟩:=Option.bind_eq_some_iff.1 ha;exact ⟨y,hy⟩
 | xown e sz d=>obtain ⟨a,ha,_⟩:=zat hx;obtain ⟨y,hy,_⟩:=Option.bind_eq_some_iff.1 ha;exact ⟨y,hy⟩
theorem ziI {bs N i:Nat} {s:Bool × List RK} {x:AV} {us:List Value} {RR:RRs} (hI:Inv base w0 w S0 S T hp m) (hPC:PendC base w S T hp m RR (fun a c=>i≤a)) (hRi:zf3 RR) (hF:∀ j,zhj w mr r RR i j) (hB:base≤B) (hinj:zfd mr r) (h1S:s.2.any (RK.ref P)=true→∀ k,S1 k→S k) (hP:Pend S hp m mr r (fun a c=>i≤a))
  (hu:∀ (i:Nat) p,r[i]? = some p→∃ u,us[i]? = some u∧oneC w S1 T' B (mr i) u p)
  (h:(zhC r bs N i s).run call hp l=some (x,hp',l')):r.length=N∧∃ u S' m',us[i]? = some u∧Imp base w0 w S0 S S' T hp hp' m m' mr r RR (fun a c=>i+1≤a)∧valC w S' T hp' m' u x:=by
 unfold zhC at h
 split at h
 ·rename_i k ks
  obtain ⟨xs,h1,l1,hx,g⟩:=bind_some h
  obtain ⟨rfl,rfl⟩:=ze g
  clear g h
  obtain ⟨x0,h2,l2,hx0,_⟩:=bind_some (show ((zec r bs N true (ks.length+1) i 0 k) >>= fun x=>(zdS r bs N true (ks.length+1) i (0+1) ks) >>= fun y=>HA.ret (x::y)).run call hp l=_ from hx)
  obtain ⟨y,hy⟩:=zfz hx0
  obtain ⟨hN,ls,hls,hlen,_⟩:=zbr hy
  obtain ⟨u,hus,cs,rfl,hcs,hq⟩:=hu i _ hls
  obtain ⟨S',m',i1,n1,c1⟩:=zfA (P:=P) (cs:=cs) hRi hB hinj hls hq hI (hPC.sub fun a c h=>by omega) hF h1S (hP.sub fun a c h=>by omega) hx
  refine ⟨hN,_,S',m',hus,⟨i1.step,i1.pend.sub fun a c h=>by omega,i1.pendC.sub fun a c h=>by omega⟩,cs,rfl,by rw [n1,hcs,hlen];rfl,fun j a ha=>?_⟩
  obtain ⟨q,hq,hc⟩:=c1 j a ha
  exact ⟨q,by simpa using hq,hc⟩
 ·rename_i k
  obtain ⟨y,hy⟩:=zfz h
  obtain ⟨hN,ls,hls,hlen,hl0⟩:=zbr hy
  obtain ⟨u,hus,q,rfl,hq⟩:=hu i _ hls
  obtain ⟨S',m',i1,c1⟩:=zhA (P:=P) (u:=u) (D':=fun a c=>i+1≤a) hI hPC hRi (hF 0) hB (fun h=>h1S (by simp [h])) hP hinj (fun a c h=>by omega) (Nat.le_refl _) (by omega) (fun y' hy'=>by
   simp only [zR,hls,Option.bind_some,List.getElem?_cons_zero,Option.some.injEq] at hy'
   subst hy'
   exact hq) h
  exact ⟨hN,u,S',m',hus,i1,valC.leaf c1⟩
 ·cases h
theorem zhD {bs N:Nat} {us:List Value} {RR:RRs} (hRi:zf3 RR) (hB:base≤B) (hinj:zfd mr r) (hu:∀ (i:Nat) p,r[i]? = some p→∃ u,us[i]? = some u∧oneC w S1 T' B (mr i) u p) :
  ∀ {ss:Sig} {i:Nat} {S:Nat→Prop} {hp hp':Hp} {m:MapM} {l l':Log} {xs:List AV},Inv base w0 w S0 S T hp m→PendC base w S T hp m RR (fun a c=>i≤a)→(∀ i j,zhj w mr r RR i j)→(ss.any (fun p=>p.2.any (RK.ref P))=true→∀ k,S1 k→S k)→Pend S hp m mr r (fun a c=>i≤a)→(zij r bs N i ss).run call hp l=some (xs,hp',l') →
   ∃ S' m',Step base w0 w w S0 S S' T hp hp' m m'∧xs.length=ss.length∧(ss≠[]→r.length=N)∧∀ (c:Nat) x,xs[c]? = some x→∃ q,us[i+c]? = some q∧valC w S' T hp' m' q x
 | [],i,S,hp,hp',m,l,l',xs,hI,hPC,hF,hS,hP,h=>by
  obtain ⟨rfl,rfl⟩:=ze h
  exact ⟨S,m,Step.refl hI,rfl,fun h=>absurd rfl h,fun c x h=>by simp at h⟩
 | s::ss,i,S,hp,hp',m,l,l',xs,hI,hPC,hF,hS,hP,h=>by
  obtain ⟨x,h1,l1,hx,g⟩:=bind_some h
  obtain ⟨ys,h2,l2,hr,g1⟩:=bind_some g
  obtain ⟨rfl,rfl⟩:=ze g1
  clear h g g1
  obtain ⟨hN,u,S2,m2,hus,i1,c1⟩:=ziI (P:=P) hI hPC hRi (hF i) hB hinj (fun h=>hS (by simp only [List.any_cons,h,Bool.true_or])) hP hu hx
  obtain ⟨S3,m3,s3,n3,_,c3⟩:=zhD hRi hB hinj hu i1.step.inv i1.pendC hF (fun h k hk=>i1.step.sub k (hS (by simp only [List.any_cons,h,Bool.or_true]) k hk)) i1.pend hr
  refine ⟨S3,m3,i1.step.trans s3,by simp [n3],fun _=>hN,fun c x' hx'=>?_⟩
  cases c with
  | zero =>
   simp only [List.getElem?_cons_zero,Option.some.injEq] at hx'
   subst hx'
   exact ⟨u,hus,c1.mono s3.ext⟩
  | succ c =>
   obtain ⟨q',h1,h2⟩:=c3 c x' hx'
   exact ⟨q',by rw [show i+(c+1)=i+1+c by omega];exact h1,h2⟩
theorem ziH {bs:Nat} {s:Sig} {v:Value} {x:AV} {RR:RRs} (hI:Inv base w0 w S0 S T hp m) (hPC:PendC base w S T hp m RR (fun a c=>True)) (hRi:zf3 RR) (hF:∀ i j,zhj w mr r RR i j) (hB:base≤B) (h1S:Sig.hasRef P s=true→∀ k,S1 k→S k) (hfr:∀ i j b,zZ (zR r i j)=true→mr i j=some b→¬ S b∧∀ id,hot (hp id)=true→m id≠some b)
  (hr:resC w S1 T' B mr v r) (h:(zhB r bs s).run call hp l=some (x,hp',l')):∃ S' m',Step base w0 w w S0 S S' T hp hp' m m'∧AC w S' T hp' m' v x:=by
 obtain ⟨⟨us,hv,hlen,hu⟩,hinj⟩:=hr
 have hP:Pend S hp m mr r (fun a c=>0≤a):=fun i j b _ h1 h2=>hfr i j b h1 h2
 unfold zhB at h
 split at h
 ·obtain ⟨he,h⟩:=zbD h
  obtain ⟨rfl,rfl⟩:=ze h
  obtain rfl:r=[]:=by simpa using he
  obtain rfl:us=[]:=List.eq_nil_of_length_eq_zero hlen
  exact ⟨S,m,Step.refl hI,#[],hv,rfl,fun j a h=>by simp at h⟩
 ·obtain ⟨hN,u,S',m',hus,i1,c1⟩:=ziI (P:=P) hI (hPC.sub fun _ _ _=>True.intro) hRi (hF 0) hB hinj (fun h=>h1S (by simp only [Sig.hasRef,List.any_cons,h,Bool.true_or])) hP hu h
  refine ⟨S',m',i1.step,?_⟩
  match us,hlen.trans hN,hv,hus with
  | [u0],_,hv,hus =>
   simp only [List.getElem?_cons_zero,Option.some.injEq] at hus
   subst hv hus
   exact AC.val c1
 ·rename_i hn0 hn1
  obtain ⟨xs,h1,l1,hx,g⟩:=bind_some h
  obtain ⟨rfl,rfl⟩:=ze g
  clear g h
  obtain ⟨S',m',s1,n1,hN,c1⟩:=zhD (P:=P) hRi hB hinj hu hI (hPC.sub fun _ _ _=>True.intro) hF h1S hP hx
  have hrl:=hN hn0
  have hv':v=.tuple us.toArray:=by
   match us,hlen.trans hrl,hv with
   | [],_,hv=>exact hv
   | [u],h,_ =>
    cases s with
    | nil=>exact absurd rfl hn0
    | cons p s=>cases s with
     | nil=>exact absurd rfl (hn1 p)
     | cons q s=>simp at h
   | _::_::_,_,hv=>exact hv
  refine ⟨S',m',s1,us.toArray,hv',by simp [n1,hlen,hrl],fun j a ha=>?_⟩
  obtain ⟨q,hq,hc⟩:=c1 j a ha
  exact ⟨q,by simpa using hq,hc⟩
end
end Ovi
namespace Ovi
open Go Go.RowKit
def VarT (hp:Hp) (m:MapM) (T:Nat→Prop):Nat→Prop:=fun k=>T k∨∃ id cs,hp id=some (.var cs)∧m id=some k
def za3 (hp:Hp):AV→Prop
 | .fn _ caps=>∀ id off cs,AV.var id off∈caps→hp id=some (.var cs)→∀ c∈cs,Frozen hp c
 | a=>Frozen hp a
theorem Fz.var {hp hp':Hp} (h:Fz hp hp') {id:Nat} {cs:List AV}:hp' id=some (.var cs)↔hp id=some (.var cs):=by
 rcases h id with h | ⟨e,sz,n,xs,q,h1,h2⟩ | ⟨e,sz,n,xs,q,q',h1,h2⟩
 ·rw [h]
 ·rw [h1,h2];constructor<;>intro h<;>cases h
 ·rw [h1,h2];constructor<;>intro h<;>cases h
theorem Fz.frozenA {hp hp':Hp} (h:Fz hp hp') {a:AV} (ha:za3 hp a):za3 hp' a:=by
 cases a with
 | fn f caps=>exact fun id off cs hm hv c hc=>h.frozen (ha id off cs hm (h.var.1 hv) c hc)
 | own id n=>exact h.frozen (a:=.own id n) ha
 | _=>exact True.intro
section
variable {P:Program} {call:zi} {base:Nat} {w0 w:World} {S0 S S1 T:Nat→Prop} {hp hp' hp0 hp1:Hp} {m:MapM} {l l':Log}
theorem Frozen.A {a:AV} (h:Frozen hp a) (hn:∀ f caps,a≠.fn f caps):za3 hp a:=by
 cases a<;>first | exact h | exact absurd rfl (hn _ _)
theorem zcY:∀ {asv:List AV} {S:Nat→Prop} {hp:Hp} {l:Log} {u:Unit},Inv base w0 w S0 S T hp m→(zbY asv).run call hp l=some (u,hp',l') →
  ∃ S',Step base w0 w w S0 S S' T hp hp' m m∧Fz hp hp'∧∀ id off cs,AV.var id off∈asv→hp' id=some (.var cs)→∀ c∈cs,Frozen hp' c
 | [],S,hp,l,u,hI,h=>by
  obtain ⟨_,rfl⟩:=ze h
  exact ⟨S,Step.refl hI,Fz.refl _,fun id off cs h=>by cases h⟩
 | a::r,S,hp,l,u,hI,h=>by
  have key:(∃ id off,a=.var id off)∨(∀ id off,a≠.var id off):=by cases a<;>first | exact .inl ⟨_,_,rfl⟩ | exact .inr (fun _ _ h=>by cases h)
  rcases key with ⟨id,off,rfl⟩ | hne
  ·simp only [zbY] at h
   obtain ⟨b,h1,l1,hb,g⟩:=bind_some h
   obtain ⟨hid,rfl⟩:=zae hb
   clear h hb
   split at g
   ·rename_i cs
    obtain ⟨_,h2,l2,hf,g1⟩:=bind_some g
    obtain ⟨S1,s1,f1,z1⟩:=zhx hI hf
    obtain ⟨S2,s2,f2,z2⟩:=zcY s1.inv g1
    refine ⟨S2,s1.trans s2,f1.trans f2,fun id' off' cs' hm hv c hc=>?_⟩
    rcases List.mem_cons.1 hm with he | hm
    ·cases he
     have:cs'=cs:=by
      have:=(f1.trans f2).var.1 hv
      rw [hid] at this
      cases this
      rfl
     subst this
     exact f2.frozen (z1 c hc)
    ·exact z2 id' off' cs' hm hv c hc
   ·cases g
  ·have h':(zbY r).run call hp l=some (u,hp',l'):=by
    cases a<;>first | exact h | exact absurd rfl (hne _ _)
   obtain ⟨S2,s2,f2,z2⟩:=zcY hI h'
   exact ⟨S2,s2,f2,fun id off cs hm hv c hc=>by
    rcases List.mem_cons.1 hm with he | hm
    ·exact absurd he.symm (hne _ _)
    ·exact z2 id off cs hm hv c hc⟩
theorem zla {a:AV} {u:Unit} (hI:Inv base w0 w S0 S T hp m) (h:(zih a).run call hp l=some (u,hp',l')) :
  ∃ S',Step base w0 w w S0 S S' T hp hp' m m∧Fz hp hp'∧za3 hp' a:=by
 unfold zih at h
 split at h
 ·exact zcY hI h
 ·rename_i hne
  obtain ⟨S',s1,f1,z1,_⟩:=zce hI h
  exact ⟨S',s1,f1,z1.A hne⟩
theorem zgI:∀ {asv:List AV} {S:Nat→Prop} {hp:Hp} {l:Log} {u:Unit},Inv base w0 w S0 S T hp m→(zg3 asv).run call hp l=some (u,hp',l') →
  ∃ S',Step base w0 w w S0 S S' T hp hp' m m∧Fz hp hp'∧∀ a∈asv,za3 hp' a
 | [],S,hp,l,u,hI,h=>by
  obtain ⟨_,rfl⟩:=ze h
  exact ⟨S,Step.refl hI,Fz.refl _,fun a h=>by cases h⟩
 | a::r,S,hp,l,u,hI,h=>by
  obtain ⟨b,h1,l1,ha,g⟩:=bind_some h
  obtain ⟨S1,s1,f1,z1⟩:=zla hI ha
  obtain ⟨S2,s2,f2,z2⟩:=zgI s1.inv g
  exact ⟨S2,s1.trans s2,f1.trans f2,fun x hx=>by
   rcases List.mem_cons.1 hx with rfl | hx
   ·exact f2.frozenA z1
   ·exact z2 x hx⟩
theorem zn1 {a:AV} {d:D} (hI:Inv base w0 w S0 S T hp m) (hf:Fz hp0 hp) (h:(zcM a).run call hp0 l=some (d,hp',l')) :
  ∃ S1 hp1,Step base w0 w w S0 S S1 T hp hp1 m m∧Fz hp hp1∧Frozen hp1 a:=by
 cases a<;>try exact ⟨S,hp,Step.refl hI,Fz.refl _,True.intro⟩
 rename_i id n
 obtain ⟨b,h1,l1,hb,g⟩:=bind_some h
 obtain ⟨hid,rfl⟩:=zae hb
 clear h hb
 split at g
 ·obtain ⟨hm,k⟩:=zB g
  clear g
  obtain rfl:=zC hm
  rename_i e sz m' xs q0
  have go:∀ q,hp id=some (.arr e sz m' xs q)→∃ S1 hp1,Step base w0 w w S0 S S1 T hp hp1 m m∧Fz hp hp1∧Frozen hp1 (.own id m'):=by
   intro q hf
   obtain ⟨h3,h4⟩:=hI.freeze hf
   refine ⟨_,_,⟨h3,fun _ h=>.inl h,Nat.le_refl _,h4⟩,fun i=>?_,sz,xs,zr _ _ _⟩
   by_cases hi:i=id
   ·subst hi;exact .inr (.inl ⟨e,sz,m',xs,q,hf,zr _ _ _⟩)
   ·exact .inl (zA hi)
  rcases hf id with hf | ⟨e1,sz1,n1,xs1,q,q1,q2⟩ | ⟨e1,sz1,n1,xs1,q,q',q1,q2⟩
  ·rw [hid] at hf
   exact go _ hf
  ·rw [hid] at q1
   cases q1
   exact ⟨S,hp,Step.refl hI,Fz.refl _,_,_,q2⟩
  ·rw [hid] at q1
   cases q1
   exact go _ q2
 ·obtain ⟨hm,k⟩:=zB g
  clear g
  obtain rfl:=zC hm
  rcases hf id with hf | ⟨e1,sz1,n1,xs1,q,q1,q2⟩ | ⟨e1,sz1,n1,xs1,q,q',q1,q2⟩
  ·exact ⟨S,hp,Step.refl hI,Fz.refl _,_,_,hf.trans hid⟩
  ·rw [hid] at q1
   cases q1
  ·rw [hid] at q1
   cases q1
 ·cases g
theorem zlO {a:AV} {d:D} (hI:Inv base w0 w S0 S T hp m) (hf:Fz hp0 hp) (h:(ze0 a).run call hp0 l=some (d,hp',l')) :
  ∃ S1 hp1,Step base w0 w w S0 S S1 T hp hp1 m m∧Fz hp hp1∧Frozen hp1 a:=by
 unfold ze0 at h
 split at h
 ·exact ⟨S,hp,Step.refl hI,Fz.refl _,True.intro⟩
 ·exact zn1 hI hf h
theorem zhe {a:AV} {d:D} (h:(ze0 a).run call hp l=some (d,hp',l')) :
  hp'=hp∧∀ hp1,Fz hp hp1→Frozen hp1 a→∀ w S T m v,leafC w S T hp1 m v a→RD w S T v d:=by
 unfold ze0 at h
 split at h
 ·obtain ⟨rfl,rfl⟩:=ze h
  exact ⟨rfl,fun _ _ _ _ _ _ _ _ h=>h⟩
 ·obtain ⟨h1,_,h2⟩:=zeZ h
  exact ⟨h1,h2⟩
theorem zkI:∀ {asv:List AV} {ds:List D} {S:Nat→Prop} {hp hp0 hp':Hp} {l l':Log},Inv base w0 w S0 S T hp m→Fz hp0 hp→(zhY asv).run call hp0 l=some (ds,hp',l') →
  ∃ S1 hp1,Step base w0 w w S0 S S1 T hp hp1 m m∧Fz hp hp1∧∀ a∈asv,Frozen hp1 a
 | [],ds,S,hp,hp0,hp',l,l',hI,hf,h=>⟨S,hp,Step.refl hI,Fz.refl _,fun a h=>by cases h⟩
 | a::r,ds,S,hp,hp0,hp',l,l',hI,hf,h=>by
  obtain ⟨d,h1,l1,hd,g⟩:=bind_some h
  obtain ⟨ds',h2,l2,hr,g1⟩:=bind_some g
  obtain ⟨rfl,_⟩:=zhe hd
  obtain ⟨S1,hp1,s1,f1,z1⟩:=zlO hI hf hd
  obtain ⟨S2,hp2,s2,f2,z2⟩:=zkI s1.inv (hf.trans f1) hr
  exact ⟨S2,hp2,s1.trans s2,f1.trans f2,fun x hx=>by
   rcases List.mem_cons.1 hx with rfl | hx
   ·exact f2.frozen z1
   ·exact z2 x hx⟩
theorem zi4:∀ {asv:List AV} {ds:List D} {hp hp':Hp} {l l':Log},(zhY asv).run call hp l=some (ds,hp',l') →
  hp'=hp∧ds.length=asv.length∧∀ (j:Nat) d,ds[j]? = some d→∃ a,asv[j]? = some a∧∀ hp1,Fz hp hp1→Frozen hp1 a→∀ w S T m v,leafC w S T hp1 m v a→RD w S T v d
 | [],ds,hp,hp',l,l',h=>by
  obtain ⟨rfl,rfl⟩:=ze h
  exact ⟨rfl,rfl,fun j d h=>by simp at h⟩
 | a::r,ds,hp,hp',l,l',h=>by
  obtain ⟨d,h1,l1,hd,g⟩:=bind_some h
  obtain ⟨ds',h2,l2,hr,g⟩:=bind_some g
  obtain ⟨rfl,rfl⟩:=ze g
  obtain ⟨rfl,q2⟩:=zhe hd
  obtain ⟨rfl,q3,q4⟩:=zi4 hr
  refine ⟨rfl,by simp [q3],fun j d' hj=>?_⟩
  cases j with
  | zero=>simp only [List.getElem?_cons_zero,Option.some.injEq] at hj;subst hj;exact ⟨a,rfl,q2⟩
  | succ j=>exact q4 j d' hj
def zlw (w:World) (S T:Nat→Prop) (u:Value) (xs:List D):Prop:=CellsAt w T S T u fun c=>xs[c]?
theorem zd3 (call:zi):∀ {asv:List AV} {rs:Rows} {hp hp':Hp} {l l':Log},(zbG asv).run call hp l=some (rs,hp',l')→hp'=hp∧rs.length=asv.length ∧
  (∀ {S:Nat→Prop} {hp1:Hp},Inv base w0 w S0 S T hp1 m→Fz hp hp1→∃ S2 hp2,Step base w0 w w S0 S S2 T hp1 hp2 m m∧Fz hp1 hp2∧∀ id off cs,AV.var id off∈asv→hp2 id=some (.var cs)→∀ c∈cs,Frozen hp2 c) ∧
  (∀ {S:Nat→Prop} {hp1:Hp},Inv base w0 w S0 S T hp1 m→Fz hp hp1→(∀ id off cs,AV.var id off∈asv→hp1 id=some (.var cs)→∀ c∈cs,Frozen hp1 c)→∀ (j:Nat) a,asv[j]? = some a→∃ xs,rs[j]? = some xs∧∀ u,capC w S T hp1 m u a→zlw w S (VarT hp m T) u xs)
 | [],rs,hp,hp',l,l',h=>by
  obtain ⟨rfl,rfl⟩:=ze h
  exact ⟨rfl,rfl,fun hI hf=>⟨_,_,Step.refl hI,Fz.refl _,fun id off cs h=>by cases h⟩,fun hI hf hz j a h=>by simp at h⟩
 | a::r,rs,hp,hp',l,l',h=>by
  have key:(∃ id,a=.var id 0)∨(∃ xs,a=.cap xs 0):=by
   cases a with
   | var id off=>cases off with
    | zero=>exact .inl ⟨_,rfl⟩
    | succ n=>simp only [zbG] at h;cases h
   | cap xs off=>cases off with
    | zero=>exact .inr ⟨_,rfl⟩
    | succ n=>simp only [zbG] at h;cases h
   | _=>simp only [zbG] at h;cases h
  rcases key with ⟨id,rfl⟩ | ⟨xs,rfl⟩
  ·simp only [zbG] at h
   obtain ⟨b,h1,l1,hb,g⟩:=bind_some h
   obtain ⟨hid,rfl⟩:=zae hb
   clear h hb
   split at g
   ·rename_i cs
    obtain ⟨ds,h2,l2,hd,g1⟩:=bind_some g
    obtain ⟨rs',h3,l3,hr,g2⟩:=bind_some g1
    obtain ⟨rfl,rfl⟩:=ze g2
    clear g g1 g2
    obtain ⟨rfl,n1,c1⟩:=zi4 hd
    obtain ⟨rfl,n2,k1,k2⟩:=zd3 call hr
    refine ⟨rfl,by simp [n2],fun hI hf=>?_,fun hI hf hz j a ha=>?_⟩
    ·obtain ⟨S2,hp2,s2,f2,z2⟩:=zkI hI hf hd
     obtain ⟨S3,hp3,s3,f3,z3⟩:=k1 s2.inv (hf.trans f2)
     refine ⟨S3,hp3,s2.trans s3,f2.trans f3,fun id' off' cs' hm hv c hc=>?_⟩
     rcases List.mem_cons.1 hm with he | hm
     ·cases he
      have:cs'=cs:=by
       have:=((hf.trans f2).trans f3).var.1 hv
       rw [hid] at this
       cases this
       rfl
      subst this
      exact f3.frozen (z2 c hc)
     ·exact z3 id' off' cs' hm hv c hc
    ·cases j with
     | zero =>
      simp only [List.getElem?_cons_zero,Option.some.injEq] at ha
      subst ha
      refine ⟨ds,rfl,fun u hu=>?_⟩
      obtain ⟨_,b,hm,rfl⟩:=hu
      have hv:=hf.var.2 hid
      obtain ⟨b',c,e,hm',hc,hl⟩:=hI.var id cs hv
      rw [hm] at hm'
      cases hm'
      refine ⟨_,rfl,fun k x hx=>⟨.inr ⟨id,cs,hid,hm⟩,?_⟩⟩
      obtain ⟨a,ha,q⟩:=c1 k x hx
      obtain ⟨q',hq',hl'⟩:=hl.2 k a ha
      refine ⟨q',?_,(q _ hf (hz id 0 cs List.mem_cons_self hv a (List.mem_of_getElem? ha)) _ _ _ _ _ hl').mono (Stab.refl _ _) (Stab.refl _ _) (fun _ h=>h) fun _ h=>.inl h⟩
      rw [add_at]
      simp only [World.cell?, hc,Nat.zero_add]
      exact hq'
     | succ j=>exact k2 hI hf (fun id' off' cs' hm=>hz id' off' cs' (List.mem_cons_of_mem _ hm)) j a ha
   ·cases g
  ·simp only [zbG] at h
   obtain ⟨rs',h3,l3,hr,g2⟩:=bind_some h
   obtain ⟨rfl,rfl⟩:=ze g2
   clear g2 h
   obtain ⟨rfl,n2,k1,k2⟩:=zd3 call hr
   refine ⟨rfl,by simp [n2],fun hI hf=>?_,fun hI hf hz j a ha=>?_⟩
   ·obtain ⟨S3,hp3,s3,f3,z3⟩:=k1 hI hf
    exact ⟨S3,hp3,s3,f3,fun id' off' cs' hm hv c hc=>by
     rcases List.mem_cons.1 hm with he | hm
     ·cases he
     ·exact z3 id' off' cs' hm hv c hc⟩
   ·cases j with
    | zero =>
     simp only [List.getElem?_cons_zero,Option.some.injEq] at ha
     subst ha
     refine ⟨xs,rfl,fun u hu=>?_⟩
     have hu:CellsAt w T _ T u fun c=>xs[0+c]? := hu
     simp only [Nat.zero_add] at hu
     exact hu.mono (Stab.refl _ _) (Stab.refl _ _) (Stab.refl _ _) (fun _ h=>.inl h) (fun _ h=>h) (fun _ h=>.inl h)
    | succ j=>exact k2 hI hf (fun id' off' cs' hm=>hz id' off' cs' (List.mem_cons_of_mem _ hm)) j a ha
end
end Ovi
namespace Ovi
open Go Go.RowKit
section
variable {P:Program} {call:zi} {base:Nat} {w0 w:World} {S0 S S1 T:Nat→Prop} {hp hp' hp0 hp1:Hp} {m:MapM} {l l':Log}
theorem RD.ofCaps {f:FuncId} {vs:Array Value} {cs:Rows} (hn:vs.size=cs.length) (h:∀ (j:Nat) xs,cs[j]? = some xs→∃ u,vs[j]? = some u∧zlw w S T u xs):RD w S T (.func (.func f) #[] vs) (.fn f cs):=by
 have hex:∀ p:Nat × Nat,∃ q:Value,∀ xs x,cs[p.1]? = some xs→xs[p.2]? = some x→∃ ad,vs[p.1]? = some (.pointer (some ad))∧T ad.block∧w.cell? (ad.add p.2)=some q∧RD w S T q x:=by
  rintro ⟨j,c⟩
  cases hx:zk cs j c with
  | none =>
   refine ⟨undef,fun xs x h1 h2=>?_⟩
   simp [zk,h1,h2] at hx
  | some x =>
   obtain ⟨xs,h1,h2⟩:=zav hx
   obtain ⟨u,hu,ad,rfl,hc⟩:=h j xs h1
   obtain ⟨ht,q,hq,hr⟩:=hc c x h2
   refine ⟨q,fun xs' x' h3 h4=>?_⟩
   simp only [] at h3 h4
   rw [h1] at h3
   cases h3
   rw [h2] at h4
   cases h4
   exact ⟨ad,hu,ht,hq,hr⟩
 obtain ⟨g,hg⟩:=Classical.axiomOfChoice hex
 refine .fn f vs cs (fun j c=>g (j,c)) hn (fun j xs hx=>?_) (fun j c x hx=>?_)
 ·obtain ⟨u,hu,ad,rfl,hc⟩:=h j xs hx
  refine ⟨ad,hu,fun c x hxc=>?_⟩
  obtain ⟨ad',h1,h2,h3,_⟩:=hg (j,c) xs x hx hxc
  rw [hu] at h1
  cases h1
  exact ⟨h2,h3⟩
 ·obtain ⟨xs,h1,h2⟩:=zav hx
  obtain ⟨_,_,_,_,hr⟩:=hg (j,c) xs x h1 h2
  exact hr
theorem zkW (call:zi) {a:AV} {d:D} (h:(snap a).run call hp l=some (d,hp',l')):hp'=hp ∧
  (∀ {S:Nat→Prop} {hp1:Hp},Inv base w0 w S0 S T hp1 m→Fz hp hp1→∃ S2 hp2,Step base w0 w w S0 S S2 T hp1 hp2 m m∧Fz hp1 hp2∧za3 hp2 a) ∧
  (∀ {S:Nat→Prop} {hp1:Hp},Inv base w0 w S0 S T hp1 m→Fz hp hp1→za3 hp1 a→∀ u,leafC w S T hp1 m u a→RD w S (VarT hp m T) u d):=by
 unfold snap at h
 split at h
 ·rename_i f caps
  obtain ⟨cs,h1,l1,hc,g⟩:=bind_some h
  obtain ⟨rfl,rfl⟩:=ze g
  obtain ⟨rfl,n1,k1,k2⟩:=zd3 (base:=base) (w0:=w0) (w:=w) (S0:=S0) (T:=T) (m:=m) call hc
  refine ⟨rfl,fun hI hf=>k1 hI hf,fun hI hf hz u hu=>?_⟩
  obtain ⟨vs,rfl,hs,hv⟩:=hu
  refine RD.ofCaps (by rw [hs,n1]) fun j xs hx=>?_
  have hj:j < caps.length:=by rw [← n1];exact (List.getElem?_eq_some_iff.1 hx).1
  obtain ⟨u,hu,hcap⟩:=hv j _ (List.getElem?_eq_getElem hj)
  obtain ⟨xs',hx',hr⟩:=k2 hI hf hz j _ (List.getElem?_eq_getElem hj)
  rw [hx] at hx'
  cases hx'
  exact ⟨u,hu,hr u hcap⟩
 ·rename_i hne
  obtain ⟨rfl,h2⟩:=zhe h
  refine ⟨rfl,fun hI hf=>?_,fun {S} {hp1} hI hf hz u hu=>?_⟩
  ·obtain ⟨S2,hp2,s,f,z⟩:=zlO hI hf h
   exact ⟨S2,hp2,s,f,z.A hne⟩
  ·have hz':Frozen hp1 a:=by cases a<;>first | exact hz | exact absurd rfl (hne _ _)
   exact (h2 _ hf hz' _ _ _ _ _ hu).mono (Stab.refl _ _) (Stab.refl _ _) (fun _ h=>h) fun _ h=>.inl h
theorem zhX (call:zi):∀ {asv:List AV} {ds:List D} {hp hp':Hp} {l l':Log},(zit asv).run call hp l=some (ds,hp',l')→hp'=hp∧ds.length=asv.length ∧
  (∀ {S:Nat→Prop} {hp1:Hp},Inv base w0 w S0 S T hp1 m→Fz hp hp1→∃ S2 hp2,Step base w0 w w S0 S S2 T hp1 hp2 m m∧Fz hp1 hp2∧∀ a∈asv,za3 hp2 a) ∧
  (∀ {S:Nat→Prop} {hp1:Hp},Inv base w0 w S0 S T hp1 m→Fz hp hp1→(∀ a∈asv,za3 hp1 a)→∀ (j:Nat) a,asv[j]? = some a→∃ d,ds[j]? = some d∧∀ u,leafC w S T hp1 m u a→RD w S (VarT hp m T) u d)
 | [],ds,hp,hp',l,l',h=>by
  obtain ⟨rfl,rfl⟩:=ze h
  exact ⟨rfl,rfl,fun hI hf=>⟨_,_,Step.refl hI,Fz.refl _,fun a h=>by cases h⟩,fun hI hf hz j a h=>by simp at h⟩
 | a::r,ds,hp,hp',l,l',h=>by
  obtain ⟨d,h1,l1,hd,g⟩:=bind_some h
  obtain ⟨ds',h2,l2,hr,g1⟩:=bind_some g
  obtain ⟨rfl,rfl⟩:=ze g1
  clear h g g1
  obtain ⟨rfl,a1,a2⟩:=zkW (base:=base) (w0:=w0) (w:=w) (S0:=S0) (T:=T) (m:=m) call hd
  obtain ⟨rfl,n2,b1,b2⟩:=zhX call hr
  refine ⟨rfl,by simp [n2],fun hI hf=>?_,fun hI hf hz j x hx=>?_⟩
  ·obtain ⟨S2,hp2,s2,f2,z2⟩:=a1 hI hf
   obtain ⟨S3,hp3,s3,f3,z3⟩:=b1 s2.inv (hf.trans f2)
   exact ⟨S3,hp3,s2.trans s3,f2.trans f3,fun x hx=>by
    rcases List.mem_cons.1 hx with rfl | hx
    ·exact f3.frozenA z2
    ·exact z3 x hx⟩
  ·cases j with
   | zero =>
    simp only [List.getElem?_cons_zero,Option.some.injEq] at hx
    subst hx
    exact ⟨d,rfl,a2 hI hf (hz _ List.mem_cons_self)⟩
   | succ j=>exact b2 hI hf (fun y hy=>hz y (List.mem_cons_of_mem _ hy)) j x hx
theorem zni (call:zi) {a x:AV} (h:(argD a).run call hp l=some (x,hp',l')):hp'=hp ∧
  (∀ {S:Nat→Prop} {hp1:Hp},Inv base w0 w S0 S T hp1 m→Fz hp hp1→∃ S2 hp2,Step base w0 w w S0 S S2 T hp1 hp2 m m∧Fz hp1 hp2∧∀ c∈a.cells,za3 hp2 c) ∧
  (∀ {S:Nat→Prop} {hp1:Hp},Inv base w0 w S0 S T hp1 m→Fz hp hp1→(∀ c∈a.cells,za3 hp1 c)→∀ u,AC w S T hp1 m u a→AC w S (VarT hp m T) (fun _=>none) (fun _=>none) u x):=by
 unfold argD at h
 split at h
 ·rename_i cs
  obtain ⟨ds,h1,l1,hd,g⟩:=bind_some h
  obtain ⟨rfl,rfl⟩:=ze g
  obtain ⟨rfl,n1,a1,a2⟩:=zhX (base:=base) (w0:=w0) (w:=w) (S0:=S0) (T:=T) (m:=m) call hd
  refine ⟨rfl,fun hI hf=>a1 hI hf,fun hI hf hz u hu=>?_⟩
  obtain ⟨vs,rfl,hs,hv⟩:=hu
  refine ⟨vs,rfl,by rw [hs];simp [asD,n1],fun j b hb=>?_⟩
  simp only [asD,List.getElem?_map,Option.map_eq_some_iff] at hb
  obtain ⟨d,hd,rfl⟩:=hb
  have hj:j < cs.length:=by rw [← n1];exact (List.getElem?_eq_some_iff.1 hd).1
  obtain ⟨q,hq,hl⟩:=hv j _ (List.getElem?_eq_getElem hj)
  obtain ⟨d',hd',hr⟩:=a2 hI hf hz j _ (List.getElem?_eq_getElem hj)
  rw [hd] at hd'
  cases hd'
  exact ⟨q,hq,hr q hl⟩
 ·rename_i xs off
  obtain ⟨rfl,rfl⟩:=ze h
  refine ⟨rfl,fun hI hf=>⟨_,_,Step.refl hI,Fz.refl _,fun c hc=>by simp only [AV.cells,List.mem_singleton] at hc;subst hc;exact True.intro⟩,fun hI hf hz u hu=>?_⟩
  have hu:CellsAt w T _ T u fun c=>xs[off+c]? := hu
  exact hu.mono (Stab.refl _ _) (Stab.refl _ _) (Stab.refl _ _) (fun _ h=>.inl h) (fun _ h=>h) fun _ h=>.inl h
 ·rename_i hna hnc
  obtain ⟨d,h1,l1,hd,g⟩:=bind_some h
  obtain ⟨rfl,rfl⟩:=ze g
  obtain ⟨rfl,a1,a2⟩:=zkW (base:=base) (w0:=w0) (w:=w) (S0:=S0) (T:=T) (m:=m) call hd
  have hc:a.cells=[a]:=by cases a<;>first | rfl | exact absurd rfl (hna _)
  rw [hc]
  refine ⟨rfl,fun hI hf=>?_,fun hI hf hz u hu=>?_⟩
  ·obtain ⟨S2,hp2,s2,f2,z2⟩:=a1 hI hf
   exact ⟨S2,hp2,s2,f2,fun c hc=>by simp only [List.mem_singleton] at hc;subst hc;exact z2⟩
  ·refine a2 hI hf (hz _ (by simp)) u ?_
   cases a<;>first | exact hu | exact absurd rfl (hna _) | (simp only [snap,ze0,zcM] at hd;cases hd)
theorem zjA (call:zi):∀ {asv xs:List AV} {hp hp':Hp} {l l':Log},(zk1 asv).run call hp l=some (xs,hp',l')→hp'=hp∧xs.length=asv.length ∧
  (∀ {S:Nat→Prop} {hp1:Hp},Inv base w0 w S0 S T hp1 m→Fz hp hp1→∃ S2 hp2,Step base w0 w w S0 S S2 T hp1 hp2 m m∧Fz hp1 hp2∧∀ c∈asv.flatMap AV.cells,za3 hp2 c) ∧
  (∀ {S:Nat→Prop} {hp1:Hp},Inv base w0 w S0 S T hp1 m→Fz hp hp1→(∀ c∈asv.flatMap AV.cells,za3 hp1 c)→∀ (j:Nat) a,asv[j]? = some a→∃ x,xs[j]? = some x∧∀ u,AC w S T hp1 m u a→AC w S (VarT hp m T) (fun _=>none) (fun _=>none) u x)
 | [],xs,hp,hp',l,l',h=>by
  obtain ⟨rfl,rfl⟩:=ze h
  exact ⟨rfl,rfl,fun hI hf=>⟨_,_,Step.refl hI,Fz.refl _,fun a h=>by simp at h⟩,fun hI hf hz j a h=>by simp at h⟩
 | a::r,xs,hp,hp',l,l',h=>by
  obtain ⟨d,h1,l1,hd,g⟩:=bind_some h
  obtain ⟨ds',h2,l2,hr,g1⟩:=bind_some g
  obtain ⟨rfl,rfl⟩:=ze g1
  clear h g g1
  obtain ⟨rfl,a1,a2⟩:=zni (base:=base) (w0:=w0) (w:=w) (S0:=S0) (T:=T) (m:=m) call hd
  obtain ⟨rfl,n2,b1,b2⟩:=zjA call hr
  refine ⟨rfl,by simp [n2],fun hI hf=>?_,fun hI hf hz j x hx=>?_⟩
  ·obtain ⟨S2,hp2,s2,f2,z2⟩:=a1 hI hf
   obtain ⟨S3,hp3,s3,f3,z3⟩:=b1 s2.inv (hf.trans f2)
   exact ⟨S3,hp3,s2.trans s3,f2.trans f3,fun x hx=>by
    rw [List.flatMap_cons,List.mem_append] at hx
    rcases hx with hx | hx
    ·exact f3.frozenA (z2 x hx)
    ·exact z3 x hx⟩
  ·cases j with
   | zero =>
    simp only [List.getElem?_cons_zero,Option.some.injEq] at hx
    subst hx
    exact ⟨d,rfl,a2 hI hf (fun y hy=>hz y (by rw [List.flatMap_cons,List.mem_append];exact .inl hy))⟩
   | succ j=>exact b2 hI hf (fun y hy=>hz y (by rw [List.flatMap_cons,List.mem_append];exact .inr hy)) j x hx
end
end Ovi
namespace Ovi
open Go Go.RowKit
section
variable {P:Program} {G:Gd} {call:zi} {base:Nat} {w0 w:World} {S0 S S1 T:Nat→Prop} {hp hp':Hp} {m:MapM} {l l':Log} {tm:Nat→Option AV} {a:Act} {x:AV} {o:Oper} {sig:FuncId→Sig}
theorem VarT.lt (hI:Inv base w0 w S0 S T hp m):∀ k,VarT hp m T k→k < w.heap.size:=by
 intro k hk
 rcases hk with hk | ⟨id,cs,hv,hm⟩
 ·exact hI.tl hk
 ·exact (hI.rng id k (by rw [hv];rfl) hm).2.1
theorem zjF (hC:SoundAt P G call w0 S0) {s:Sig} {bs:Nat} {f:FuncId} {args caps:List AV} (hI:Inv base w0 w S0 S T hp m) {vs cvs:Array Value} (hl:Leaves (AC w S T hp m) vs args)
  (hc:∀ S1:Nat→Prop,(∀ k,S k→S1 k)→Leaves (AC w S1 (VarT hp m T) (fun _=>none) (fun _=>none)) cvs caps)
  (h:(zk5 P s bs f args caps).run call hp l=some (x,hp',l')) :
  zaE P f ∧
  Calls P f (vs++cvs) w fun e w'=>∃ v S' m',e=.returned v∧Step base w0 w w' S0 S S' T hp hp' m m'∧AC w' S' T hp' m' v x:=by
 obtain ⟨xs,h1,l1,hx,g⟩:=bind_some h
 clear h
 obtain ⟨rfl,n1,gh,ok⟩:=zjA (base:=base) (w0:=w0) (w:=w) (S0:=S0) (T:=T) (m:=m) call hx
 obtain ⟨r,hr,g1⟩:=zfm g
 clear g
 have hf:=hC.snd.known f _ r hr
 have hG:=hC.tab
 have hC:=hC.snd.plain f _ r hr
 refine ⟨hf,?_⟩
 have hargs:∀ {S1:Nat→Prop} {hp1:Hp},Step base w0 w w S0 S S1 T h1 hp1 m m→Fz h1 hp1→(∀ c∈args.flatMap AV.cells,za3 hp1 c)→Leaves (AC w S1 (VarT h1 m T) (fun _=>none) (fun _=>none)) (vs++cvs) (xs++caps):=by
  intro S1 hp1 s1 f1 z1
  have hcl:=hc S1 s1.sub
  have hvn:vs.size=xs.length:=by rw [hl.1,n1]
  refine ⟨by simp [hvn,hcl.1],fun j b hb=>?_⟩
  by_cases hj:j < xs.length
  ·rw [List.getElem?_append_left hj] at hb
   have hja:j < args.length:=by rw [← n1];exact hj
   obtain ⟨u,hu,hac⟩:=hl.2 j _ (List.getElem?_eq_getElem hja)
   obtain ⟨x,hx,hok⟩:=ok s1.inv f1 z1 j _ (List.getElem?_eq_getElem hja)
   rw [hb] at hx
   cases hx
   exact ⟨u,by rw [Array.getElem?_append_left (by omega)];exact hu,hok u (hac.mono s1.ext)⟩
  ·rw [List.getElem?_append_right (by omega)] at hb
   obtain ⟨u,hu,hac⟩:=hcl.2 _ b hb
   exact ⟨u,by rw [Array.getElem?_append_right (by omega),hvn];exact hu,hac⟩
 have fresh:∀ {S2 S':Nat→Prop} {hp1:Hp} {w':World} {mr:Nat→Nat→Option Nat} {v:Value},Inv base w0 w S0 S2 T hp1 m→(∀ k,S' k→¬ (S2 k∧False) )→resC w' S' (VarT h1 m T) w.heap.size mr v r→∀ i j b,zZ (zR r i j)=true→mr i j=some b→w.heap.size≤b∧¬ S' b:=by
  intro S2 S' hp1 w' mr v hI2 _ hres i j b hrow hb
  obtain ⟨⟨us,_,_,hu⟩,_⟩:=hres
  unfold zR at hrow
  cases hri:r[i]? with
  | none=>rw [hri] at hrow;cases hrow
  | some p =>
   rw [hri] at hrow
   obtain ⟨u,_,ho⟩:=hu i p hri
   obtain ⟨bb,ls⟩:=p
   simp only [Option.bind_some] at hrow
   cases hlj:ls[j]? with
   | none=>rw [hlj] at hrow;cases hrow
   | some y =>
    rw [hlj] at hrow
    have key:∀ q,rlC w' S' (VarT h1 m T) w.heap.size (mr i j) q y→w.heap.size≤b∧¬ S' b:=by
     intro q hq
     cases y with
     | d _=>cases hrow
     | nil=>cases hrow
     | row e sz xs =>
      have:=hq.2.2
      rw [hb] at this
      exact ⟨this.1,this.2.1⟩
     | frow e sz d xs =>
      have:=hq.2.2
      rw [hb] at this
      exact ⟨this.1,this.2.1⟩
    cases bb with
    | true =>
     obtain ⟨cs,_,_,hq⟩:=ho
     obtain ⟨q,_,hq⟩:=hq j y hlj
     exact key q hq
    | false =>
     obtain ⟨y',rfl,hq⟩:=ho
     cases j with
     | zero =>
      simp only [List.getElem?_cons_zero,Option.some.injEq] at hlj
      subst hlj
      exact key _ hq
     | succ j=>simp at hlj
 split at g1
 ·
  obtain ⟨_,h2,l2,hfz,g2⟩:=bind_some g1
  clear g1
  obtain ⟨S1,s1,f1,z1⟩:=zgI hI hfz
  refine (hC w S1 (VarT h1 m T) _ s1.inv.slt (VarT.lt hI) (hargs s1 f1 z1) (s1.inv.gd hG)).mono fun e w' ⟨v,S',mr,he,hb,hs,hn,hres,RR,rr1,rr2,rr3⟩=>?_
  obtain ⟨q1,q2⟩:=s1.inv.world hb
  obtain ⟨q3,q4⟩:=q1.moreS (S':=S') hs (fun k hk=>by
   rcases hn k hk with h | h
   ·exact .inl h
   ·exact .inr ⟨Nat.le_trans hI.bsz h.1,h.2,fun id ho he=>by have:=(s1.inv.rng id k ho he).2.1;omega⟩)
  have hPC:PendC base w' S' T h2 m RR (fun _ _=>True):=by
   obtain ⟨G',hG'⟩:=q1.cl
   refine ⟨G',hG'.moreS hs,fun i j a c k _ hk=>⟨⟨(rr1 i j a c k hk).1,Nat.le_trans hI.bsz (rr1 i j a c k hk).2,fun ht=>by have h1:=hI.tl ht;have h2:=(rr1 i j a c k hk).2;omega⟩,fun id i' c' hg=>?_⟩⟩
   have h1:=s1.inv.slt k (hG'.gs id i' c' k hg).1
   have h2:=(rr1 i j a c k hk).2
   omega
  obtain ⟨S'',m',s5,hac⟩:=ziH (P:=P) q3 hPC rr2 (fun i j=>rr3 i j) hI.bsz (fun _ k hk=>hk) (fun i j b h1 h2=>by
   obtain ⟨h3,h4⟩:=fresh s1.inv (fun _ _ h=>h.2) hres i j b h1 h2
   exact ⟨h4,fun id ho he=>by have:=(s1.inv.rng id b ho he).2.1;omega⟩) hres g2
  exact ⟨v,S'',m',he,s1.trans (Step.trans ⟨q3,hs,hb.size,fun v a h=>q4 v a (q2 v a h)⟩ s5),hac⟩
 ·rename_i hsig
  obtain ⟨S1,hp1,s1,f1,z1⟩:=gh hI (Fz.refl _)
  refine (hC w S1 (VarT h1 m T) _ s1.inv.slt (VarT.lt hI) (hargs s1 f1 z1) (s1.inv.gd hG)).mono fun e w' ⟨v,S',mr,he,hb,hs,hn,hres,RR,rr1,rr2,rr3⟩=>?_
  obtain ⟨q1,q2⟩:=hI.world hb
  have hSlt:∀ k,S k→k < w.heap.size:=hI.slt
  have hRS:∀ i j a c k,RR i j a c k→w.heap.size≤k∧k < w'.heap.size:=fun i j a c k hk=>by
   obtain ⟨p1,p2⟩:=rr1 i j a c k hk
   rcases hn k p1 with h | h
   ·have:=s1.inv.slt k h;omega
   ·exact h
  obtain ⟨q3,q4⟩:=q1.moreS (S':=fun k=>S k∨∃ i j a c,RR i j a c k) (fun k hk=>.inl hk) (fun k hk=>by
   rcases hk with h | ⟨i,j,a,c,h⟩
   ·exact .inl h
   ·obtain ⟨p1,p2⟩:=hRS i j a c k h
    exact .inr ⟨Nat.le_trans hI.bsz p1,p2,fun id ho he=>by have:=(hI.rng id k ho he).2.1;omega⟩)
  have hPC:PendC base w' (fun k=>S k∨∃ i j a c,RR i j a c k) T h1 m RR (fun _ _=>True):=by
   obtain ⟨G',hG'⟩:=q1.cl
   refine ⟨G',hG'.moreS (fun k hk=>.inl hk),fun i j a c k _ hk=>⟨⟨.inr ⟨i,j,a,c,hk⟩,Nat.le_trans hI.bsz (hRS i j a c k hk).1,fun ht=>by have h1:=hI.tl ht;have h2:=(hRS i j a c k hk).1;omega⟩,fun id i' c' hg=>?_⟩⟩
   have h1:=hSlt k (hG'.gs id i' c' k hg).1
   have h2:=(hRS i j a c k hk).1
   omega
  obtain ⟨S'',m',s5,hac⟩:=ziH (P:=P) q3 hPC rr2 (fun i j=>rr3 i j) hI.bsz (fun h=>by rw [hsig] at h;cases h) (fun i j b h1 h2=>by
   obtain ⟨h3,h4⟩:=fresh s1.inv (fun _ _ h=>h.2) hres i j b h1 h2
   exact ⟨fun h=>h.elim (fun h=>h4 (hs b (s1.sub b h))) fun ⟨i,j,a,c,h⟩=>h4 (rr1 i j a c b h).1,fun id ho he=>by have:=(hI.rng id b ho he).2.1;omega⟩) hres g1
  exact ⟨v,S'',m',he,Step.trans ⟨q3,fun k h=>.inl h,hb.size,fun v a h=>q4 v a (q2 v a h)⟩ s5,hac⟩
theorem znJ (hC:SoundAt P G call w0 S0) {kd:Nat} {f:FuncId} {args:List AV} (hI:Inv base w0 w S0 S T hp m) {vs:Array Value} (hl:Leaves (AC w S T hp m) vs args) (h:(rawV kd f args).run call hp l=some (x,hp',l')) :
  zaE P f∧Calls P f vs w fun e w'=>∃ v S' m',e=.returned v∧Step base w0 w w' S0 S S' T hp hp' m m'∧AC w' S' T hp' m' v x:=by
 unfold rawV at h
 split at h
 ·rename_i id n rest
  obtain ⟨hd,h⟩:=zB h
  obtain ⟨blk,h1,l1,hb,g⟩:=bind_some h
  obtain ⟨hid,rfl⟩:=zae hb
  clear h hb
  split at g
  ·rename_i e sz ver xs q0
   obtain ⟨hc,g1⟩:=zB g
   clear g
   obtain rfl:=zC hc
   obtain ⟨r,hr,g⟩:=zfm g1
   clear g1
   refine ⟨hC.snd.known _ _ _ hr,?_⟩
   have hraw:=hC.snd.raw f .i64 e sz xs rest r hr e rfl
   obtain ⟨u,hu,hown⟩:=hl.2 0 _ rfl
   have hown:leafC w S T h1 m u (.own id ver):=hown
   simp only [leafC,hid] at hown
   obtain ⟨_,_,hown⟩:=hown
   have hown:=hown trivial
   obtain ⟨a1,a2⟩:=hI.arr _ _ _ _ _ _ hid
   have hrow:rowC w S T 0 (m id) e sz xs u:=by
    refine ⟨a1,hown,?_⟩
    cases hm:m id with
    | none=>rw [hm] at a2;exact a2
    | some b=>rw [hm] at a2;exact ⟨Nat.zero_le _,(hI.rng id b (by rw [hid];rfl) hm).2.2,a2⟩
   have hvs:vs=#[u]++vs.extract 1 vs.size:=by
    apply Array.ext_getElem?
    intro k
    cases k with
    | zero=>rw [hu,Array.getElem?_append_left (by simp)];simp
    | succ k =>
     rw [Array.getElem?_append_right (by simp)]
     simp only [List.size_toArray,List.length_cons,List.length_nil,Nat.zero_add,Nat.add_sub_cancel,Array.getElem?_extract]
     by_cases hk:k+1 < vs.size
     ·rw [if_pos (by omega),Nat.add_comm 1 k]
     ·rw [if_neg (by omega)];simp;omega
   rw [hvs]
   have hT0:∀ k,T k→k < w.heap.size:=fun k hk=>hI.tl hk
   have hrest:Leaves (AC w S T (fun _=>none) (fun _=>none)) (vs.extract 1 vs.size) rest:=by
    have h0:=hl.1
    simp only [List.length_cons] at h0
    refine ⟨by simp;omega,fun j b hb=>?_⟩
    obtain ⟨q,hq,ha⟩:=hl.2 (j+1) b (by simpa using hb)
    have hj:=(Array.getElem?_eq_some_iff.1 hq).1
    refine ⟨q,by rw [Array.getElem?_extract,if_pos (by omega),Nat.add_comm 1 j];exact hq,?_⟩
    have:=List.all_eq_true.1 hd b (List.mem_of_getElem? hb)
    cases b<;>first | cases this;done | exact ha
   rcases hraw with hraw | ⟨d1,ys,z,rfl,hxy,hrun⟩
   rotate_left
   ·refine (hrun w S T (m id) u _ hI.slt hT0 hrow hrest).mono fun ex w' ⟨v,mo',he,hb,hfr,hrc,hin⟩=>?_
    have move:∀ q':Cm,(q'=(0,0,0)∨q'=zdU q0)→Step base w0 w w' S0 S S T h1 (updH h1 id (some (.arr e sz (ver+1) ys q'))) m (updM m id mo')∧leafC w' S T (updH h1 id (some (.arr e sz (ver+1) ys q'))) (updM m id mo') v (.own id (ver+1)):=by
     intro q' hQ
     obtain ⟨z1,z2,z3⟩:=hrc
     have hcl:∃ G',Cl base w' S T (updH h1 id (some (.arr e sz (ver+1) ys q'))) (updM m id mo') G':=by
      obtain ⟨G',hG'⟩:=hI.cl
      by_cases hd0:0 < q'.1
      ·have hQ:q'=zdU q0:=by
        rcases hQ with rfl | h
        ·exact absurd hd0 (Nat.lt_irrefl 0)
        ·exact h
       obtain ⟨d0,lo0,cv0⟩:=q0
       cases lo0 with
       | succ lo0=>subst hQ;exact absurd hd0 (Nat.lt_irrefl 0)
       | zero =>
        have hd0:0 < d0:=by subst hQ;exact hd0
        by_cases hyn:ys=[]
        ·subst hyn
         refine ⟨fun i j c k=>i≠id∧G' i j c k,fun i j c k hk=>hG'.gs _ _ _ _ hk.2,fun i j c i' j' c' k hk hk'=>hG'.gd _ _ _ _ _ _ _ hk.2 hk'.2,fun i e1 sz1 ver1 xs1 d lo cv b cur g1 g2 g3 g4 j c x hj hx=>?_⟩
         by_cases hi:i=id
         ·subst hi
          rw [zr] at g1
          cases g1
          simp [zk] at hx
         ·rw [zA hi] at g1
          rw [zP hi] at g3
          rw [hb.block b (hI.rng i b (by rw [g1];rfl) g3).2.1] at g4
          obtain ⟨u1,hu1,hf⟩:=hG'.gf i e1 sz1 ver1 xs1 d lo cv b cur g1 g2 g3 g4 j c x hj hx
          exact ⟨u1,hu1,hf.stab (fun k hk=>hb.block k (hI.slt k (hG'.gs _ _ _ _ hk).1)) fun k hk=>⟨hi,hk⟩⟩
        have hxn:xs≠[]:=fun h=>hyn (hxy h)
        cases hm:m id with
        | none=>rw [hm] at a2;exact absurd a2 hxn
        | some b0 =>
         rw [hm] at a2 hin
         obtain ⟨cur0,hc0,_,_⟩:=a2
         cases hmo:mo' with
         | none=>rw [hmo] at z3;exact absurd z3 hyn
         | some b1 =>
          rw [hmo] at z3 hin
          obtain ⟨_,_,cur1,hc1,_,k2⟩:=z3
          obtain ⟨π,pi1,pi2⟩:=hin b0 cur0 b1 cur1 rfl rfl hc0 hc1
          refine ⟨fun i j c k=>if i=id then j < ys.length∧G' id (π j) c k else G' i j c k,fun i j c k hk=>?_,fun i j c i' j' c' k hk hk'=>?_,fun i e1 sz1 ver1 xs1 d lo cv b cur g1 g2 g3 g4 j c x hj hx=>?_⟩
          ·by_cases hi:i=id
           ·simp only [if_pos hi] at hk;exact hG'.gs _ _ _ _ hk.2
           ·simp only [if_neg hi] at hk;exact hG'.gs _ _ _ _ hk
          ·by_cases hi:i=id
           ·simp only [if_pos hi] at hk
            by_cases hi':i'=id
            ·simp only [if_pos hi'] at hk'
             obtain ⟨_,g2,g3⟩:=hG'.gd _ _ _ _ _ _ _ hk.2 hk'.2
             exact ⟨hi.trans hi'.symm,pi1 _ _ hk.1 hk'.1 g2,g3⟩
            ·simp only [if_neg hi'] at hk'
             exact absurd (hG'.gd _ _ _ _ _ _ _ hk.2 hk').1.symm hi'
           ·simp only [if_neg hi] at hk
            by_cases hi':i'=id
            ·simp only [if_pos hi'] at hk'
             exact absurd (hG'.gd _ _ _ _ _ _ _ hk hk'.2).1 hi
            ·simp only [if_neg hi'] at hk'
             exact hG'.gd _ _ _ _ _ _ _ hk hk'
          ·by_cases hi:i=id
           ·subst hi
            rw [zr] at g1
            subst hQ
            have g5:some (Blk.arr e sz (ver+1) ys (d0,0,cv0+1))=some (Blk.arr e1 sz1 ver1 xs1 (d,lo,cv)):=g1
            cases g5
            rw [zH] at g3
            cases g3
            rw [hc1] at g4
            cases g4
            have hjl:j < ys.length:=by
             unfold zk at hx
             obtain ⟨y,hy,_⟩:=Option.bind_eq_some_iff.1 hx
             exact (List.getElem?_eq_some_iff.1 hy).1
            obtain ⟨p1,p2⟩:=pi2 j hjl c x hx
            rcases p2 with p2 | ⟨s0,rfl⟩
            rotate_left
            ·obtain ⟨_,v0,hv0,_⟩:=k2 j c _ hx
             refine ⟨v0,hv0,?_⟩
             cases d0 with
             | zero=>exact True.intro
             | succ d0=>exact .inl rfl
            obtain ⟨u1,hu1,hf⟩:=hG'.gf i e sz ver xs d0 0 cv0 b0 cur0 hid hd0 hm hc0 (π j) c x (Nat.zero_le _) p1
            refine ⟨u1,p2.trans hu1,hf.stab (fun k hk=>hb.block k (hI.slt k (hG'.gs _ _ _ _ hk).1)) fun k hk=>?_⟩
            simp only [if_true]
            exact ⟨hjl,hk⟩
           ·rw [zA hi] at g1
            rw [zP hi] at g3
            rw [hb.block b (hI.rng i b (by rw [g1];rfl) g3).2.1] at g4
            obtain ⟨u1,hu1,hf⟩:=hG'.gf i e1 sz1 ver1 xs1 d lo cv b cur g1 g2 g3 g4 j c x hj hx
            refine ⟨u1,hu1,hf.stab (fun k hk=>hb.block k (hI.slt k (hG'.gs _ _ _ _ hk).1)) fun k hk=>?_⟩
            simp only [if_neg hi]
            exact hk
      ·refine ⟨fun i j c k=>i≠id∧G' i j c k,fun i j c k hk=>hG'.gs _ _ _ _ hk.2,fun i j c i' j' c' k hk hk'=>hG'.gd _ _ _ _ _ _ _ hk.2 hk'.2,fun i e1 sz1 ver1 xs1 d lo cv b cur g1 g2 g3 g4 j c x hj hx=>?_⟩
       by_cases hi:i=id
       ·subst hi
        rw [zr] at g1
        cases g1
        exact absurd g2 hd0
       ·rw [zA hi] at g1
        rw [zP hi] at g3
        rw [hb.block b (hI.rng i b (by rw [g1];rfl) g3).2.1] at g4
        obtain ⟨u1,hu1,hf⟩:=hG'.gf i e1 sz1 ver1 xs1 d lo cv b cur g1 g2 g3 g4 j c x hj hx
        exact ⟨u1,hu1,hf.stab (fun k hk=>hb.block k (hI.slt k (hG'.gs _ _ _ _ hk).1)) fun k hk=>⟨hi,hk⟩⟩
     obtain ⟨r1,r2⟩:=hI.regrow (ver':=ver+1) (w':=w') (row:=m id) (mo':=mo') (xs':=ys) (q':=q') (.inr ⟨ver,xs,_,hid,Nat.lt_succ_self _,rfl⟩) hcl ⟨hb.os,hb.tape,hb.output,hb.size,fun k hk _=>hb.block k hk⟩ z1 (by
      cases hmo:mo' with
      | none=>rw [hmo] at z3;exact .inl ⟨rfl,z3⟩
      | some b1 =>
       rw [hmo] at z3
       obtain ⟨_,_,cur1,hc1,k1,k2⟩:=z3
       exact .inr ⟨b1,cur1,rfl,.inr ⟨hfr b1 hmo,z6 hc1⟩,hc1,k1,fun i c x hx=>⟨(k2 i c x hx).1,let ⟨v0,hv0,hr0⟩:=(k2 i c x hx).2;⟨v0,hv0,hr0.mono (fun k hk=>(hb.block k (hI.slt k hk)).symm) (fun k hk=>(hb.block k (hI.tl hk)).symm) (fun _ h=>h) fun _ h=>h⟩⟩⟩)
     refine ⟨⟨r1,fun _ h=>h,hb.size,r2⟩,?_⟩
     simp only [leafC,zr,zH]
     refine ⟨?_,Nat.le_refl _,fun _=>z2⟩
     cases hmo:mo' with
     | none=>rw [hmo] at z2;obtain ⟨_,A,rfl⟩:=z2;rfl
     | some b1=>rw [hmo] at z2;obtain ⟨cap,cur,rfl,_⟩:=z2;rfl
    split at g
    ·obtain ⟨zs,hz,g1⟩:=zat g
     simp [resO,zaf] at hz
    ·obtain ⟨zs,hz,g1⟩:=zat g
     obtain ⟨_,h2,l2,hput,g3⟩:=bind_some g1
     obtain ⟨rfl,rfl⟩:=ze g3
     simp only [putB,HA.run,Option.some.injEq,Prod.mk.injEq] at hput
     obtain ⟨_,hput,_⟩:=hput
     obtain rfl:ys=zs:=by simpa [resO,zaf] using hz
     subst hput
     obtain ⟨p1,p2⟩:=move (0,0,0) (.inl rfl)
     exact ⟨_,S,_,he,p1,p2⟩
    ·obtain ⟨zs,hz,g1⟩:=zat g
     simp [resF,zaf] at hz
    ·obtain ⟨zs,hz,g1⟩:=zat g
     obtain ⟨_,h2,l2,hput,g3⟩:=bind_some g1
     obtain ⟨rfl,rfl⟩:=ze g3
     simp only [putB,HA.run,Option.some.injEq,Prod.mk.injEq] at hput
     obtain ⟨_,hput,_⟩:=hput
     obtain rfl:ys=zs:=by simpa [resF,zaf] using hz
     subst hput
     obtain ⟨p1,p2⟩:=move (zdU q0) (.inr rfl)
     exact ⟨_,S,_,he,p1,p2⟩
   refine (hraw w S T (m id) u _ hI.slt hT0 hrow hrest).mono fun ex w' ⟨v,he,ht,hres⟩=>?_
   have put:∀ {zs:Rows} {ver':Nat} {hp2:Hp} {q:Value} {q':Cm},hp2=updH h1 id (some (.arr e sz ver' zs q'))→ver≤ver'→(ver'=ver→zs.length=xs.length)→rowC w' S T 0 (m id) e sz zs q →
     (q'=(0,0,0)∨(q'=zdU q0∧zfM w w' (m id) e sz xs zs))→Step base w0 w w' S0 S S T h1 hp2 m m:=by
    intro zs ver' hp2 q q' hhp hle hlen hrc hQ
    subst hhp
    obtain ⟨z1,z2,z3⟩:=hrc
    have hq1:0 < q'.1→0 < q0.1∧q0.2.2 < q'.2.2:=by
     intro hd
     rcases hQ with rfl | ⟨rfl,_⟩
     ·exact absurd hd (Nat.lt_irrefl 0)
     ·obtain ⟨d,lo,cv⟩:=q0
      cases lo with
      | zero=>exact ⟨hd,Nat.lt_succ_self _⟩
      | succ lo=>exact absurd hd (Nat.lt_irrefl 0)
    cases hm:m id with
    | none =>
     rw [hm] at ht z3 a2
     obtain ⟨p1,p2⟩:=hI.world ht
     subst z3 a2
     have hmm:updM m id none=m:=by
      funext i
      by_cases hi:i=id
      ·subst hi;rw [zH,hm]
      ·rw [zP hi]
     have hcl:∃ G',Cl base w' S T (updH h1 id (some (.arr e sz ver' [] q'))) m G':=by
      obtain ⟨G',hG'⟩:=p1.cl
      have:=hG'.newNil id (.arr e sz ver' [] q')
      rw [hmm] at this
      exact ⟨G',this⟩
     by_cases hv:ver'=ver
     ·subst hv
      obtain ⟨r1,r2⟩:=p1.setQ' hid (fun hd=>⟨(hq1 hd).1,Nat.le_of_lt (hq1 hd).2⟩) hcl
      exact ⟨r1,fun _ h=>h,ht.size,fun v a ha=>r2 v a (p2 v a ha)⟩
     ·obtain ⟨r1,r2⟩:=p1.regrow (ver':=ver') (w':=w') (row:=none) (mo':=none) (xs':=[]) (q':=q') (.inr ⟨ver,[],_,hid,by omega,hm.symm⟩) (by rw [hmm];exact hcl) ⟨rfl,rfl,rfl,Nat.le_refl _,fun _ _ _=>rfl⟩ (fun i x hx=>by simp at hx) (.inl ⟨rfl,rfl⟩)
      rw [hmm] at r1 r2
      exact ⟨r1,fun _ h=>h,ht.size,fun v a ha=>r2 v a (p2 v a ha)⟩
    | some b =>
     rw [hm] at ht z3
     obtain ⟨cur,cur',hcur,hsz,hbel⟩:=ht
     obtain ⟨_,hnS,cur2,hcur2,k1,k2⟩:=z3
     have hbl:b < w.heap.size:=z6 hcur
     have hbb:base≤b:=(hI.rng id b (by rw [hid];rfl) hm).1
     have hsame:w'.heap[b]? = (zag w b cur' e).heap[b]? := hbel.block b hbl
     rw [zaH hbl,hcur2] at hsame
     simp only [Option.some.injEq,Obj.cells.injEq] at hsame
     obtain ⟨rfl,_,_⟩:=hsame
     have hS':Stab S w' w:=fun k hk=>by
      have hkl:=hI.slt k hk
      have hne:k≠b:=fun e=>hnS (e▸hk)
      have:=hbel.block k (by exact hkl)
      rw [zaI hne] at this
      exact this.symm
     have hTs:Stab T w' w:=fun k hk=>by
      have hne:k≠b:=fun e'=>hI.hotT (id:=id) (by rw [hid];rfl) hm (e'▸hk)
      have:=hbel.block k (by exact hI.tl hk)
      rw [zaI hne] at this
      exact this.symm
     have hcl:∃ G',Cl base (zag w b cur2 e) S T (updH h1 id (some (.arr e sz ver' zs q'))) m G':=by
      obtain ⟨G',hG'⟩:=hI.cl
      rcases hQ with rfl | ⟨rfl,hin⟩
      ·exact ⟨G',hG'.writeNo hI hid rfl hm fun _ _ _ _ _ _ _ h=>by cases h;rfl⟩
      ·obtain ⟨π,pi1,pi2⟩:=hin b cur cur2 hm hcur hcur2
       refine ⟨fun i j c k=>if i=id then j < zs.length∧G' id (π j) c k else G' i j c k,hG'.write hI hid rfl hm (fun i j c k hk=>?_) (fun i j c i' j' c' k hk hk'=>?_) (fun i hi j c k=>if_neg hi) (fun e1 sz1 ver1 xs1 d lo cv hb hd j k x hj hx=>?_)⟩
       ·by_cases hi:i=id
        ·simp only [if_pos hi] at hk;exact hG'.gs _ _ _ _ hk.2
        ·simp only [if_neg hi] at hk;exact hG'.gs _ _ _ _ hk
       ·by_cases hi:i=id
        ·simp only [if_pos hi] at hk
         by_cases hi':i'=id
         ·simp only [if_pos hi'] at hk'
          obtain ⟨_,g2,g3⟩:=hG'.gd _ _ _ _ _ _ _ hk.2 hk'.2
          exact ⟨hi.trans hi'.symm,pi1 _ _ hk.1 hk'.1 g2,g3⟩
         ·simp only [if_neg hi'] at hk'
          exact absurd (hG'.gd _ _ _ _ _ _ _ hk.2 hk').1.symm hi'
        ·simp only [if_neg hi] at hk
         by_cases hi':i'=id
         ·simp only [if_pos hi'] at hk'
          exact absurd (hG'.gd _ _ _ _ _ _ _ hk hk'.2).1 hi
         ·simp only [if_neg hi'] at hk'
          exact hG'.gd _ _ _ _ _ _ _ hk hk'
       ·obtain ⟨d0,lo0,cv0⟩:=q0
        cases lo0 with
        | succ lo0=>simp only [zdU,Blk.arr.injEq,Prod.mk.injEq] at hb;omega
        | zero =>
         simp only [zdU,Blk.arr.injEq,Prod.mk.injEq] at hb
         obtain ⟨e1',e2',_,e4',e5',_,_⟩:=hb
         subst e1' e2' e4' e5'
         have hjl:j < zs.length:=by
          unfold zk at hx
          obtain ⟨y,hy,_⟩:=Option.bind_eq_some_iff.1 hx
          exact (List.getElem?_eq_some_iff.1 hy).1
         obtain ⟨p1,p2⟩:=pi2 j hjl k x hx
         rcases p2 with p2 | ⟨s0,rfl⟩
         rotate_left
         ·obtain ⟨_,v0,hv0,_⟩:=k2 j k _ hx
          refine ⟨v0,hv0,?_⟩
          cases d0 with
          | zero=>exact True.intro
          | succ d0=>exact .inl rfl
         obtain ⟨u,hu,hf⟩:=hG'.gf id e sz ver xs d0 0 cv0 b cur hid hd hm hcur (π j) k x (Nat.zero_le _) p1
         refine ⟨u,p2.trans hu,hf.stab (fun _ _=>rfl) fun k hk=>?_⟩
         simp only [if_true]
         exact ⟨hjl,hk⟩
     obtain ⟨p1,p2⟩:=hI.write (c':=cur2) (blk':=.arr e sz ver' zs q') hid rfl rfl hm hcur hsz (.inr ⟨sz,ver,xs,q0,ver',zs,q',rfl,rfl,fun _=>hq1,hle,hlen,z1,k1,fun i k d hd=>by
      obtain ⟨y1,y,y2,y3⟩:=k2 i k d hd
      exact ⟨y1,y,y2,y3.mono hS' hTs (fun _ h=>h) (fun _ h=>h)⟩⟩) hcl
     obtain ⟨q3,q4⟩:=p1.world (w':=w') (by rw [zbb];exact hbel)
     exact ⟨q3,fun _ h=>h,by have:=hbel.size;rwa [zbb] at this,fun v a ha=>q4 v a (p2 v a ha)⟩
   have kind0:∀ {zs:Rows},Option.bind (zaf 1 false 1 r 0 0) (fun | .row e' sz' xs=>if e'=e∧sz'=sz then some xs else none | .frow e' sz' _ xs=>if e'=e∧sz'=sz then some xs else none | .nil=>some [] | _=>none)=some zs→zs.length=xs.length∧v=.tuple #[]∧rowC w' S T 0 (m id) e sz zs u:=by
    intro zs hz
    obtain ⟨y,hy,hz⟩:=Option.bind_eq_some_iff.1 hz
    obtain ⟨n1,ls,n2,n3,n4⟩:=zbr hy
    obtain ⟨p,rfl⟩:=List.length_eq_one_iff.1 n1
    simp only [List.getElem?_cons_zero,Option.some.injEq] at n2
    subst n2
    obtain ⟨y',rfl⟩:=List.length_eq_one_iff.1 n3
    simp only [List.getElem?_cons_zero,Option.some.injEq] at n4
    subst n4
    cases y' with
    | d _=>cases hz
    | nil=>exact hres.elim
    | row e' sz' ys =>
     simp only [] at hz
     split at hz
     ·rename_i hes
      cases hz
      exact hres hes
     ·cases hz
    | frow e' sz' d' ys =>
     simp only [] at hz
     split at hz
     ·rename_i hes
      cases hz
      exact (hres hes).1
     ·cases hz
   have kind2:∀ {zs:Rows},Option.bind (zaf 1 false 1 r 0 0) (fun | .frow e' sz' d' xs=>if e'=e∧sz'=sz∧0≤d' then some xs else none | .nil=>some [] | _=>none)=some zs→(zs.length=xs.length∧v=.tuple #[]∧rowC w' S T 0 (m id) e sz zs u)∧zfM w w' (m id) e sz xs zs:=by
    intro zs hz
    obtain ⟨y,hy,hz⟩:=Option.bind_eq_some_iff.1 hz
    obtain ⟨n1,ls,n2,n3,n4⟩:=zbr hy
    obtain ⟨p,rfl⟩:=List.length_eq_one_iff.1 n1
    simp only [List.getElem?_cons_zero,Option.some.injEq] at n2
    subst n2
    obtain ⟨y',rfl⟩:=List.length_eq_one_iff.1 n3
    simp only [List.getElem?_cons_zero,Option.some.injEq] at n4
    subst n4
    cases y' with
    | d _=>cases hz
    | nil=>exact hres.elim
    | row e' sz' ys=>cases hz
    | frow e' sz' d' ys =>
     simp only [] at hz
     split at hz
     ·rename_i hes
      cases hz
      exact hres ⟨hes.1,hes.2.1⟩
     ·cases hz
   have kind1:∀ {zs:Rows},Option.bind (zaf 2 false 1 r 0 0) (fun | .row e' sz' xs=>if e'=e∧sz'=sz then some xs else none | .frow e' sz' _ xs=>if e'=e∧sz'=sz then some xs else none | .nil=>some [] | _=>none)=some zs→rowC w' S T 0 (m id) e sz zs v:=by
    intro zs hz
    obtain ⟨y,hy,hz⟩:=Option.bind_eq_some_iff.1 hz
    obtain ⟨n1,ls,n2,n3,n4⟩:=zbr hy
    obtain ⟨p,q,rfl⟩:∃ p q,r=[p,q]:=by
     match r,n1 with
     | [p,q],_=>exact ⟨p,q,rfl⟩
    simp only [List.getElem?_cons_zero,Option.some.injEq] at n2
    subst n2
    obtain ⟨y',rfl⟩:=List.length_eq_one_iff.1 n3
    simp only [List.getElem?_cons_zero,Option.some.injEq] at n4
    subst n4
    cases y' with
    | d _=>cases hz
    | nil=>exact hres.elim
    | row e' sz' ys =>
     simp only [] at hz
     split at hz
     ·rename_i hes
      cases hz
      exact hres hes
     ·cases hz
    | frow e' sz' d' ys =>
     simp only [] at hz
     split at hz
     ·rename_i hes
      cases hz
      exact (hres hes).1
     ·cases hz
   have kind3:∀ {zs:Rows},Option.bind (zaf 2 false 1 r 0 0) (fun | .frow e' sz' d' xs=>if e'=e∧sz'=sz∧0≤d' then some xs else none | .nil=>some [] | _=>none)=some zs→rowC w' S T 0 (m id) e sz zs v∧zfM w w' (m id) e sz xs zs:=by
    intro zs hz
    obtain ⟨y,hy,hz⟩:=Option.bind_eq_some_iff.1 hz
    obtain ⟨n1,ls,n2,n3,n4⟩:=zbr hy
    obtain ⟨p,q,rfl⟩:∃ p q,r=[p,q]:=by
     match r,n1 with
     | [p,q],_=>exact ⟨p,q,rfl⟩
    simp only [List.getElem?_cons_zero,Option.some.injEq] at n2
    subst n2
    obtain ⟨y',rfl⟩:=List.length_eq_one_iff.1 n3
    simp only [List.getElem?_cons_zero,Option.some.injEq] at n4
    subst n4
    cases y' with
    | d _=>cases hz
    | nil=>exact hres.elim
    | row e' sz' ys=>cases hz
    | frow e' sz' d' ys =>
     simp only [] at hz
     split at hz
     ·rename_i hes
      cases hz
      exact hres ⟨hes.1,hes.2.1⟩
     ·cases hz
   have own1:∀ {zs:Rows} {q':Cm},rowC w' S T 0 (m id) e sz zs v→leafC w' S T (updH h1 id (some (.arr e sz (ver+1) zs q'))) m v (.own id (ver+1)):=by
    intro zs q' k2
    simp only [leafC,zr]
    refine ⟨?_,Nat.le_refl _,fun _=>k2.2.1⟩
    have:=k2.2.1
    cases hm:m id with
    | none=>rw [hm] at this;obtain ⟨_,A,rfl⟩:=this;rfl
    | some b=>rw [hm] at this;obtain ⟨cap,cur,rfl,_⟩:=this;rfl
   split at g
   ·obtain ⟨zs,hz,g1⟩:=zat g
    obtain ⟨_,h2,l2,hput,g3⟩:=bind_some g1
    obtain ⟨rfl,rfl⟩:=ze g3
    clear g g1 g3
    simp only [putB,HA.run,Option.some.injEq,Prod.mk.injEq] at hput
    obtain ⟨_,hput,_⟩:=hput
    obtain ⟨k1,rfl,k2⟩:=kind0 hz
    exact ⟨_,S,m,he,put hput.symm (Nat.le_refl _) (fun _=>k1) k2 (.inl rfl),#[],rfl,rfl,fun j a ha=>by simp at ha⟩
   ·obtain ⟨zs,hz,g1⟩:=zat g
    obtain ⟨_,h2,l2,hput,g3⟩:=bind_some g1
    obtain ⟨rfl,rfl⟩:=ze g3
    clear g g1 g3
    simp only [putB,HA.run,Option.some.injEq,Prod.mk.injEq] at hput
    obtain ⟨_,hput,_⟩:=hput
    have k2:=kind1 hz
    have st:=put hput.symm (Nat.le_succ _) (fun h=>by omega) k2 (.inl rfl)
    subst hput
    exact ⟨_,S,m,he,st,own1 k2⟩
   ·obtain ⟨zs,hz,g1⟩:=zat g
    obtain ⟨_,h2,l2,hput,g3⟩:=bind_some g1
    obtain ⟨rfl,rfl⟩:=ze g3
    clear g g1 g3
    simp only [putB,HA.run,Option.some.injEq,Prod.mk.injEq] at hput
    obtain ⟨_,hput,_⟩:=hput
    obtain ⟨⟨k1,rfl,k2⟩,k3⟩:=kind2 hz
    exact ⟨_,S,m,he,put hput.symm (Nat.le_refl _) (fun _=>k1) k2 (.inr ⟨rfl,k3⟩),#[],rfl,rfl,fun j a ha=>by simp at ha⟩
   ·obtain ⟨zs,hz,g1⟩:=zat g
    obtain ⟨_,h2,l2,hput,g3⟩:=bind_some g1
    obtain ⟨rfl,rfl⟩:=ze g3
    clear g g1 g3
    simp only [putB,HA.run,Option.some.injEq,Prod.mk.injEq] at hput
    obtain ⟨_,hput,_⟩:=hput
    obtain ⟨k2,k3⟩:=kind3 hz
    have st:=put hput.symm (Nat.le_succ _) (fun h=>by omega) k2 (.inr ⟨rfl,k3⟩)
    subst hput
    exact ⟨_,S,m,he,st,own1 k2⟩
  ·cases g
 ·cases h
theorem zmo (hC:SoundAt P G call w0 S0) {s:Sig} {bs:Nat} {f:FuncId} {args:List AV} (hI:Inv base w0 w S0 S T hp m) {vs:Array Value} (hl:Leaves (AC w S T hp m) vs args) (h:(zk4 P s bs f args).run call hp l=some (x,hp',l')) :
  zaE P f∧Calls P f vs w fun e w'=>∃ v S' m',e=.returned v∧Step base w0 w w' S0 S S' T hp hp' m m'∧AC w' S' T hp' m' v x:=by
 unfold zk4 at h
 split at h
 ·have hl':Leaves (AC w S T hp m) vs (args.map AV.strip):=by
   refine ⟨by simpa using hl.1,fun j b hb=>?_⟩
   rw [List.getElem?_map] at hb
   obtain ⟨a,ha,rfl⟩:=Option.map_eq_some_iff.1 hb
   obtain ⟨u,hu,hc⟩:=hl.2 j a ha
   exact ⟨u,hu,zcb hc⟩
  exact znJ hC hI hl' h
 ·have:=zjF hC (cvs:=#[]) hI hl (fun S1 _=>⟨rfl,fun j b hb=>by simp at hb⟩) h
  simpa using this
theorem zho {f:FuncId} {vs cvs:Array Value} (hf:∃ fn,P.funcs[f]? = some fn∧fn.body.isSome=true∧(fn.name == "runtime.NumGoroutine")=false):(invoke (.fn (.func f) cvs) vs).run P w=.ok (.enter f (vs++cvs)) w:=by
 obtain ⟨fn,h1,h2,h3⟩:=hf
 have hb:fn.body.isNone=false:=by cases hb:fn.body<;>simp_all
 have hp:(program).run P w=.ok P w:=rfl
 simp only [invoke,callFunc,Sem.run_bind,hp,Result.andThen_ok,h1,h3,hb,Bool.false_eq_true,if_false,Sem.run_pure]
theorem znl (hC:SoundAt P G call w0 S0) (hI:Inv base w0 w S0 S T hp m) (hT:TmOk w S T hp m tm a.tmps) {c:Call} (ho:o.op=.call c) {f:Operand} (hf:c.callee=.value f) (h:(zcJ P sig (zI tm) o.dst o.op o.type).run call hp l=some (x,hp',l')):Good P base w0 w S0 S T hp m o a x hp':=by
 rw [ho] at h
 simp only [zcJ] at h
 split at h
 ·cases h
 ·rename_i args hargs
  have hl:=zdM hT hargs
  have zbh:∀ {g:FuncId} {cvs:Array Value},a.eval f=.func (.func g) #[] cvs→zaE P g∧Calls P g ((c.args.toList.map a.eval).toArray++cvs) w (fun e w'=>∃ v S' m',e=.returned v∧Step base w0 w w' S0 S S' T hp hp' m m'∧AC w' S' T hp' m' v x) →
    Good P base w0 w S0 S T hp m o a x hp':=by
   intro g cvs hg ⟨he,hcalls⟩
   intro K Q hK
   have hx:(execOp a.eval o).run P w=.ok (.enter g (c.args.map a.eval++cvs)) w:=by
    simp only [execOp,ho,resolve,hf,hg,Deferred.ofValue,Sem.run_bind,Sem.run_pure,Result.andThen_ok,Array.empty_append]
    exact zho he
   unfold Oper.wp
   rw [hx,Oper.upon_enter]
   have hvs:(c.args.toList.map a.eval).toArray=c.args.map a.eval:=by rw [← Array.toArray_toList (xs:=c.args.map a.eval),Array.toList_map]
   rw [hvs] at hcalls
   refine hcalls.mono fun e w' ⟨v,S',m',hev,s1,hac⟩=>?_
   subst hev
   exact hK v w' S' m' s1 hac
  split at h
  ·rename_i g hcal
   rw [hf] at hcal
   cases hcal
   exact zbh (cvs:=#[]) rfl (by have:=zmo hC hI hl h;simpa using this)
  ·rename_i y _ hcal
   rw [hf] at hcal
   cases hcal
   split at h
   ·rename_i g caps hy
    have hv:=zT hT hy
    obtain ⟨cvs,hv1,hs1,hv2⟩:∃ cvs:Array Value,a.eval f=.func (.func g) #[] cvs∧cvs.size=caps.length∧∀ S1:Nat→Prop,(∀ k,S k→S1 k)→∀ (j:Nat) xs,caps[j]? = some xs→∃ u,cvs[j]? = some u∧CellsAt w (VarT hp m T) S1 (VarT hp m T) u fun c=>xs[0+c]? := by
     have hv:RD w S T (a.eval f) (.fn g caps):=hv
     generalize a.eval f=V at hv
     cases hv with
     | fn _ vs _ g h1 h4 h5 =>
      refine ⟨vs,rfl,h1,fun S1 hS1 j xs hx=>?_⟩
      obtain ⟨ad,hu,hc⟩:=h4 j xs hx
      refine ⟨_,hu,ad,rfl,fun c x hxc=>?_⟩
      simp only [Nat.zero_add] at hxc
      obtain ⟨ht,hcell⟩:=hc c x hxc
      exact ⟨.inl ht,_,hcell,(h5 j c x (by simp [zk,hx,hxc])).mono (Stab.refl _ _) (Stab.refl _ _) hS1 fun _ h=>.inl h⟩
    refine zbh hv1 (zjF hC hI hl (fun S1 hS1=>⟨by simp [hs1],fun j b hb=>?_⟩) h)
    simp only [List.getElem?_map,Option.map_eq_some_iff] at hb
    obtain ⟨xs,hx,rfl⟩:=hb
    exact hv2 S1 hS1 j xs hx
   ·cases h
  ·rename_i hcal
   rw [hf] at hcal
   cases hcal
  ·rename_i hcal
   rw [hf] at hcal
   cases hcal
  ·rename_i hcal
   rw [hf] at hcal
   cases hcal
  ·rename_i hcal
   rw [hf] at hcal
   cases hcal
  ·cases h
end
end Ovi
namespace Ovi
open Go Go.RowKit
def Rel (base:Nat) (w0:World) (S0 T:Nat→Prop) (N:Nat) (σ:St) (a:Act) (w:World):Prop :=
 a.defers=[]∧a.tmps.size=N∧∃ S m,Inv base w0 w S0 S T σ.hp m∧TmOk w S T σ.hp m σ.tm a.tmps
def zbX (N:Nat) (o:Oper):Bool:=match o.dst with | some d=>Nat.blt d N | none=>true
section
variable {P:Program} {G:Gd} {call:zi} {base N:Nat} {w0 w:World} {S0 S T:Nat→Prop} {hp:Hp} {m:MapM} {tm:Nat→Option AV} {a:Act} {sig:FuncId→Sig} {σ σ':St} {l:Log} {Q:Exit→Act→World→Prop}
theorem zfS (tm:Tm) (t:Nat) (v:Option AV):setT tm t v t=v:=by simp [setT]
theorem zkV {tm:Tm} {t i:Nat} {v:Option AV} (h:i≠t):setT tm t v i=tm i:=by
 have:Nat.beq i t=false:=by
  cases hb:Nat.beq i t with
  | false=>rfl
  | true=>exact absurd (Nat.eq_of_beq_eq_true hb) h
 simp [setT,this]
theorem TmOk.put {dst:Option Nat} {v:Value} {x:Option AV} (hT:TmOk w S T hp m tm a.tmps) (hd:∀ d,dst=some d→d < a.tmps.size) (hx:∀ y,x=some y→AC w S T hp m v y):TmOk w S T hp m (putT tm dst x) (a.put dst v).tmps:=by
 cases dst with
 | none=>exact hT
 | some d =>
  intro t y hy
  simp only [putT] at hy
  simp only [Act.put]
  by_cases ht:t=d
  ·subst ht
   rw [zfS] at hy
   exact ⟨v,Array.getElem?_setIfInBounds_self_of_lt (hd t rfl),hx y hy⟩
  ·rw [zkV ht] at hy
   rw [Array.getElem?_setIfInBounds_ne (Ne.symm ht)]
   exact hT t y hy
theorem zeS (a:Act) (dst:Option Nat) (v:Value):(a.put dst v).tmps.size=a.tmps.size:=by cases dst<;>simp [Act.put]
theorem zda (a:Act) (dst:Option Nat) (v:Value):(a.put dst v).defers=a.defers:=by cases dst<;>rfl
theorem zeD {o:Oper} (h:zbX N o=true):∀ d,o.dst=some d→d < N:=by
 intro d hd
 simp only [zbX,hd] at h
 exact Nat.le_of_ble_eq_true (n:=d+1) h
theorem zlz (hC:SoundAt P G call w0 S0) {o:Oper} (hd:zbX N o=true) (hR:Rel base w0 S0 T N σ a w) (h:zcl P sig call o σ=some (σ',l)) (K:Act→World→Prop) (hK:∀ a' w',Rel base w0 S0 T N σ' a' w'→K a' w'):o.wp P a w K Q:=by
 obtain ⟨h1,h2,S,m,hI,hT⟩:=hR
 unfold zcl at h
 split at h
 ·rename_i x hp' l' hrun
  cases h
  have good:Good P base w0 w S0 S T σ.hp m o a x hp':=by
   cases hc:zdy o.op with
   | false=>exact zmH hI hT hc hrun
   | true =>
    cases ho:o.op<;>rw [ho] at hc<;>try cases hc
    rename_i c
    simp only [zdy] at hc
    cases hf:c.callee<;>rw [hf] at hc<;>try cases hc
    exact znl hC hI hT ho hf hrun
  refine good K Q fun v w' S' m' s1 hx=>hK _ _ ⟨by rw [zda];exact h1,by rw [zeS];exact h2,S',m',s1.inv,?_⟩
  exact TmOk.put (hT.mono s1.ext) (fun d hdd=>by rw [h2];exact zeD hd d hdd) (fun y hy=>by cases hy;exact hx)
 ·cases h
theorem zmv {ops:Array Oper} {o:Oper} {t:Nat} {want b:Bool} (hT:TmOk w S T hp m tm a.tmps) (hg:zcf ops.toList o=some (some (t,want))) (hb:tm t=some (.d (.bool b))):Region.wanted o (yielded ops a.tmps)=(b==want):=by
 unfold zcf at hg
 split at hg
 ·cases hg
 ·rename_i j w' hgu
  split at hg
  ·rename_i o' hj
   split at hg
   ·rename_i t' hd
    simp only [Option.some.injEq,Prod.mk.injEq] at hg
    obtain ⟨rfl,rfl⟩:=hg
    obtain ⟨v,hv,hc⟩:=hT _ _ hb
    have hj':ops[j]? = some o':=by simpa using hj
    have hv':=zca hc
    subst hv'
    simp only [Region.wanted,hgu,yielded,hj',Option.bind_some,hd,hv]
    cases b<;>cases w'<;>rfl
   ·cases hg
  ·cases hg
theorem zkl {w:World} {S T:Nat→Prop} {hp:Hp} {m:MapM}:AC w S T hp m undef (.tup []):=⟨#[],rfl,rfl,fun j a h=>by simp at h⟩
theorem zkq {w:World} {S T:Nat→Prop} {hp:Hp} {m:MapM} {tm:Nat→Option AV} {a:Act} (hT:TmOk w S T hp m tm a.tmps) {ops:Array Oper} {o:Oper} {t:Nat} {want:Bool} (hg:zcf ops.toList o=some (some (t,want))) (hb:tm t=some (.tup [])):Region.wanted o (yielded ops a.tmps)=false:=by
 unfold zcf at hg
 split at hg
 ·cases hg
 ·rename_i j w' hgu
  split at hg
  ·rename_i o' hj
   split at hg
   ·rename_i t' hd
    simp only [Option.some.injEq,Prod.mk.injEq] at hg
    obtain ⟨rfl,rfl⟩:=hg
    obtain ⟨v,hv,vs,rfl,_⟩:=hT _ _ hb
    have hj':ops[j]? = some o':=by simpa using hj
    simp only [Region.wanted,hgu,yielded,hj',Option.bind_some,hd,hv]
    cases w'<;>rfl
   ·cases hg
  ·cases hg
theorem zgp (hC:SoundAt P G call w0 S0) {ops:Array Oper} {o:Oper} (hd:zbX N o=true) (hR:Rel base w0 S0 T N σ a w) (h:zaJ P sig call ops.toList o σ=some (σ',l)) (K:Act→World→Prop) (hK:∀ a' w',Rel base w0 S0 T N σ' a' w'→K a' w') :
  if Region.wanted o (yielded ops a.tmps) then o.wp P a w K Q∨(o.asks P a w∧LetsOut Q) else K (a.put o.dst undef) w:=by
 unfold zaJ at h
 split at h
 ·cases h
 ·rename_i hg
  have:o.guard=none:=by
   unfold zcf at hg
   split at hg
   ·assumption
   ·split at hg
    ·split at hg<;>cases hg
    ·cases hg
  rw [if_pos (by simp [Region.wanted,this])]
  exact .inl (zlz hC hd hR h K hK)
 ·rename_i t want hg
  split at h
  ·rename_i b hb
   obtain ⟨h1,h2,S,m,hI,hT⟩:=hR
   rw [zmv hT hg hb]
   cases hbw:b==want with
   | true =>
    rw [hbw] at h
    exact .inl (zlz hC hd ⟨h1,h2,S,m,hI,hT⟩ h K hK)
   | false =>
    rw [hbw] at h
    simp only [cond_false,Option.some.injEq,Prod.mk.injEq] at h
    obtain ⟨rfl,_⟩:=h
    rw [if_neg (by simp)]
    exact hK _ _ ⟨by rw [zda];exact h1,by rw [zeS];exact h2,S,m,hI,TmOk.put hT (fun d hdd=>by rw [h2];exact zeD hd d hdd) (fun y hy=>by cases hy;exact zkl)⟩
  ·rename_i hb
   obtain ⟨h1,h2,S,m,hI,hT⟩:=hR
   rw [zkq hT hg hb]
   simp only [Option.some.injEq,Prod.mk.injEq] at h
   obtain ⟨rfl,_⟩:=h
   rw [if_neg (by simp)]
   exact hK _ _ ⟨by rw [zda];exact h1,by rw [zeS];exact h2,S,m,hI,TmOk.put hT (fun d hdd=>by rw [h2];exact zeD hd d hdd) (fun y hy=>by cases hy;exact zkl)⟩
  ·cases h
theorem zi0 (hC:SoundAt P G call w0 S0) {ops:Array Oper}:∀ {os:List Oper} {σ:St} {a:Act} {w:World} {ls:List Log},os.all (zbX N)=true→Rel base w0 S0 T N σ a w→zaz P sig call ops.toList os σ=some (σ',ls)→(∀ a' w',Rel base w0 S0 T N σ' a' w'→Q .normal a' w')→wpList P ops Q os a w
 | [],σ,a,w,ls,hd,hR,h,hQ=>by
  cases h
  exact hQ a w hR
 | o::r,σ,a,w,ls,hd,hR,h,hQ=>by
  simp only [List.all_cons,Bool.and_eq_true] at hd
  unfold zaz at h
  split at h
  ·rename_i σ1 l1 hs
   split at h
   ·rename_i σ2 ls2 hr
    cases h
    unfold wpList
    exact zgp hC hd.1 hR hs _ fun a' w' hR'=>zi0 hC hd.2 hR' hr hQ
   ·cases h
  ·cases h
end
end Ovi
namespace Ovi
open Go Go.RowKit
section
variable {P:Program} {call:zi} {base N:Nat} {w0 w:World} {S0 S S' T:Nat→Prop} {hp hp' hp2:Hp} {m m2:MapM} {tm:Nat→Option AV} {a:Act} {l l':Log}
def KCok (w:World) (S T:Nat→Prop) (hp:Hp) (m:MapM) (u:Value):KC→Prop
 | .k v=>zgq v=true∧leafC w S T hp m u v
 | .z _ _ _ _=>∃ A,u=.slice A 0 0
 | .o _ id n _ _ _=>leafC w S T hp m u (.own id n)
def zh9 (R:Value→KC→Prop) (vs:Array Value) (cs:List KC):Prop:=vs.size=cs.length∧∀ (j:Nat) a,cs[j]? = some a→∃ u,vs[j]? = some u∧R u a
def KVok (w:World) (S T:Nat→Prop) (hp:Hp) (m:MapM) (u:Value):KV→Prop
 | .c x=>KCok w S T hp m u x
 | .box id off xs=>∃ b c e,(∃ cs,hp id=some (.var cs))∧m id=some b∧u=zb0 b off∧w.heap[b]? = some (.cells c e (0,0))∧zh9 (KCok w S T hp m) c xs
theorem KCok.mono (s:Step base w0 w w S0 S S' T hp hp' m m) {u:Value} {x:KC} (h:KCok w S T hp m u x):KCok w S' T hp' m u x:=by
 cases x with
 | k v=>exact ⟨h.1,s.ext _ _ h.2⟩
 | z loc e sz d=>exact h
 | o loc id n e sz q=>exact s.ext u (.own id n) h
theorem KVok.mono (s:Step base w0 w w S0 S S' T hp hp' m m) (f:Fz hp hp') {u:Value} {x:KV} (h:KVok w S T hp m u x):KVok w S' T hp' m u x:=by
 cases x with
 | c x=>exact KCok.mono s h
 | box id off xs =>
  obtain ⟨b,c,e,⟨cs,hv⟩,h1,h2,h3,h4,h5⟩:=h
  exact ⟨b,c,e,⟨cs,f.var.2 hv⟩,h1,h2,h3,h4,fun j y hy=>by obtain ⟨u,hu,hk⟩:=h5 j y hy;exact ⟨u,hu,hk.mono s⟩⟩
theorem zjW {loc:Nat} {k:Keep} {v:AV} {u:Value} {x:KC} (hI:Inv base w0 w S0 S T hp m) (hu:AC w S T hp m u v) (hp0:v.strip=v) (h:(ziJ loc k v).run call hp l=some (x,hp',l')) :
  ∃ S',Step base w0 w w S0 S S' T hp hp' m m∧Fz hp hp'∧KCok w S' T hp' m u x:=by
 have stl:∀ {v:AV},AC w S T hp m u v→zgq v=true→leafC w S T hp m u v:=by
  intro v h hs
  cases v<;>first | cases hs;done | exact h
 cases k with
 | same =>
  obtain ⟨hs,h⟩:=zB h
  obtain ⟨rfl,rfl⟩:=ze h
  exact ⟨S,Step.refl hI,Fz.refl _,hs,stl hu hs⟩
 | data sz =>
  have other:∀ {v:AV},AC w S T hp m u v→(cond (zgq v) (HA.ret (KC.k v)) HA.fail).run call hp l=some (x,hp',l')→∃ S',Step base w0 w w S0 S S' T hp hp' m m∧Fz hp hp'∧KCok w S' T hp' m u x:=by
   intro v hu h
   obtain ⟨hs,h⟩:=zB h
   obtain ⟨rfl,rfl⟩:=ze h
   exact ⟨S,Step.refl hI,Fz.refl _,hs,stl hu hs⟩
  cases v with
  | own id n =>
   obtain ⟨d,h1,l1,hd,g⟩:=bind_some h
   obtain ⟨_,h2,l2,hf,g1⟩:=bind_some g
   obtain ⟨rfl,rfl⟩:=ze g1
   clear h g g1
   obtain ⟨rfl,_,q⟩:=zeZ hd
   obtain ⟨S',s1,f1,z1,_⟩:=zce hI hf
   exact ⟨S',s1,f1,rfl,q _ f1 z1 _ _ _ _ _ (s1.ext _ _ (zcD hu))⟩
  | nil s =>
   obtain ⟨rfl,rfl⟩:=ze h
   obtain ⟨A,rfl⟩:=hu
   exact ⟨S,Step.refl hI,Fz.refl _,rfl,RD.nil A sz⟩
  | d _=>exact other hu h
  | pv _ _ _ _ _ _=>cases hp0
  | s _ _=>cases hp0
  | var _ _=>exact other hu h
  | el _ _ _ _=>exact other hu h
  | imm _ _ _=>exact other hu h
  | cap _ _=>exact other hu h
  | fn _ _=>exact other hu h
  | agg _=>exact other hu h
  | tup _=>exact other hu h
 | own e sz =>
  cases v with
  | own id n =>
   obtain ⟨rfl,rfl⟩:=ze h
   exact ⟨S,Step.refl hI,Fz.refl _,zcD hu⟩
  | nil s =>
   obtain ⟨rfl,rfl⟩:=ze h
   exact ⟨S,Step.refl hI,Fz.refl _,hu⟩
  | _=>cases h
 | fow e sz d =>
  cases v with
  | own id n =>
   obtain ⟨rfl,rfl⟩:=ze h
   exact ⟨S,Step.refl hI,Fz.refl _,zcD hu⟩
  | nil s =>
   obtain ⟨rfl,rfl⟩:=ze h
   exact ⟨S,Step.refl hI,Fz.refl _,hu⟩
  | _=>cases h
 | fowl e sz d =>
  cases v with
  | own id n =>
   obtain ⟨rfl,rfl⟩:=ze h
   exact ⟨S,Step.refl hI,Fz.refl _,zcD hu⟩
  | nil s =>
   obtain ⟨rfl,rfl⟩:=ze h
   exact ⟨S,Step.refl hI,Fz.refl _,hu⟩
  | _=>cases h
 | box ks=>cases h
theorem zku:∀ v:AV,v.strip.strip=v.strip
 | .d _ | .pv _ _ _ _ _ _ | .s _ _ | .nil _ | .own _ _ | .var _ _ | .el _ _ _ _ | .imm _ _ _ | .cap _ _ | .fn _ _ | .agg _ | .tup _=>rfl
theorem zgL {loc:Nat} {k:Keep} {v:AV} {u:Value} {x:KC} (hI:Inv base w0 w S0 S T hp m) (hu:AC w S T hp m u v) (h:(zdA loc k v).run call hp l=some (x,hp',l')) :
  ∃ S',Step base w0 w w S0 S S' T hp hp' m m∧Fz hp hp'∧KCok w S' T hp' m u x:=by
 unfold zdA at h
 split at h
 ·obtain ⟨rfl,rfl⟩:=ze h
  exact ⟨S,Step.refl hI,Fz.refl _,rfl,hu⟩
 ·exact zjW hI (zcb hu) (zku v) h
theorem zfB {loc:Nat}:∀ {ks:List Keep} {vs:List AV} {c:Nat} {cs:List Value} {S:Nat→Prop} {hp hp':Hp} {l l':Log} {xs:List KC},Inv base w0 w S0 S T hp m→Leaves (leafC w S T hp m) cs.toArray vs→(zdT loc c ks vs).run call hp l=some (xs,hp',l') →
  ∃ S',Step base w0 w w S0 S S' T hp hp' m m∧Fz hp hp'∧zh9 (KCok w S' T hp' m) cs.toArray xs
 | [],[],c,cs,S,hp,hp',l,l',xs,hI,hl,h=>by
  obtain ⟨rfl,rfl⟩:=ze h
  exact ⟨S,Step.refl hI,Fz.refl _,hl.1,fun j a h=>by simp at h⟩
 | k::ks,v::vs,c,cs,S,hp,hp',l,l',xs,hI,hl,h=>by
  obtain ⟨x,h1,l1,hx,g⟩:=bind_some h
  obtain ⟨ys,h2,l2,hr,g1⟩:=bind_some g
  obtain ⟨rfl,rfl⟩:=ze g1
  clear h g g1
  cases cs with
  | nil=>have:=hl.1;simp at this
  | cons u cs =>
  obtain ⟨u',hu',hlv⟩:=hl.2 0 v rfl
  simp at hu'
  subst hu'
  obtain ⟨S1,s1,f1,k1⟩:=zgL hI (AC.leaf hlv) hx
  obtain ⟨S2,s2,f2,n2,k2⟩:=zfB (cs:=cs) s1.inv ⟨by simpa using hl.1,fun j a ha=>by
   obtain ⟨q,hq,hr⟩:=hl.2 (j+1) a ha
   exact ⟨q,by simpa using hq,s1.ext _ _ hr⟩⟩ hr
  refine ⟨S2,s1.trans s2,f1.trans f2,by simpa using n2,fun j y hy=>?_⟩
  cases j with
  | zero =>
   simp only [List.getElem?_cons_zero,Option.some.injEq] at hy
   subst hy
   exact ⟨u,by simp,k1.mono s2⟩
  | succ j =>
   obtain ⟨q,hq,hr⟩:=k2 j y hy
   exact ⟨q,by simpa using hq,hr⟩
 | [],v::vs,c,cs,S,hp,hp',l,l',xs,hI,hl,h=>by cases h
 | k::ks,[],c,cs,S,hp,hp',l,l',xs,hI,hl,h=>by cases h
theorem zlc {t:Nat} {k:Keep} {v:AV} {u:Value} {x:KV} (hI:Inv base w0 w S0 S T hp m) (hu:AC w S T hp m u v) (h:(zkM t k v).run call hp l=some (x,hp',l')) :
  ∃ S',Step base w0 w w S0 S S' T hp hp' m m∧Fz hp hp'∧KVok w S' T hp' m u x:=by
 have plain:∀ {k:Keep},(do let x ← zdA (100000+t) k v;HA.ret (KV.c x)).run call hp l=some (x,hp',l')→∃ S',Step base w0 w w S0 S S' T hp hp' m m∧Fz hp hp'∧KVok w S' T hp' m u x:=by
  intro k h
  obtain ⟨y,h1,l1,hy,g⟩:=bind_some h
  obtain ⟨rfl,rfl⟩:=ze g
  exact zgL hI hu hy
 cases k with
 | same=>exact plain h
 | data sz=>exact plain h
 | own e sz=>exact plain h
 | fow e sz d=>exact plain h
 | fowl e sz d=>exact plain h
 | box ks =>
  cases v<;>try (cases h;done)
  rename_i id off
  obtain ⟨b,h1,l1,hb,g⟩:=bind_some (show ((getB id) >>= fun b=>match b with | .var cs=>(do let ds ← zdT (200000+t * 16) 0 ks cs;HA.ret (KV.box id off ds)) | _=>HA.fail).run call hp l=_ from h)
  obtain ⟨hid,rfl⟩:=zae hb
  clear h hb
  split at g
  ·rename_i cs
   obtain ⟨ds,h2,l2,hd,g1⟩:=bind_some g
   obtain ⟨rfl,rfl⟩:=ze g1
   clear g g1
   obtain ⟨_,b,hm,rfl⟩:=hu
   obtain ⟨b',c,e,hm',hc,hl⟩:=hI.var id cs hid
   rw [hm] at hm'
   cases hm'
   obtain ⟨S',s1,f1,k1⟩:=zfB (cs:=c.toList) hI (by simpa using hl) hd
   exact ⟨S',s1,f1,b,c,e,⟨cs,f1.var.2 hid⟩,hm,rfl,hc,by simpa using k1⟩
  ·cases g
theorem ziK:∀ {h:zap} {S:Nat→Prop} {hp hp':Hp} {l l':Log} {xs:List (Nat × KV)},Inv base w0 w S0 S T hp m→TmOk w S T hp m tm a.tmps→(zbq tm h).run call hp l=some (xs,hp',l') →
  ∃ S',Step base w0 w w S0 S S' T hp hp' m m∧Fz hp hp'∧∀ p∈xs,∃ u,a.tmps[p.1]? = some u∧KVok w S' T hp' m u p.2
 | [],S,hp,hp',l,l',xs,hI,hT,h=>by
  obtain ⟨rfl,rfl⟩:=ze h
  exact ⟨S,Step.refl hI,Fz.refl _,fun p h=>by cases h⟩
 | (t,k)::r,S,hp,hp',l,l',xs,hI,hT,h=>by
  simp only [zbq] at h
  split at h
  ·rename_i v hv
   obtain ⟨x,h1,l1,hx,g⟩:=bind_some h
   obtain ⟨ys,h2,l2,hr,g1⟩:=bind_some g
   obtain ⟨rfl,rfl⟩:=ze g1
   clear h g g1
   obtain ⟨u,hu,hc⟩:=hT t v hv
   obtain ⟨S1,s1,f1,k1⟩:=zlc hI hc hx
   obtain ⟨S2,s2,f2,k2⟩:=ziK s1.inv (hT.mono s1.ext) hr
   refine ⟨S2,s1.trans s2,f1.trans f2,fun p hp=>?_⟩
   rcases List.mem_cons.1 hp with rfl | hp
   ·exact ⟨u,hu,k1.mono s2 f2⟩
   ·exact k2 p hp
  ·cases h
theorem zfh {α:Type}:∀ {l:List (Nat × α)} {i:Nat} {x:α},zaR (l.map fun p=>p.1)=true→(i,x)∈l→za5 l i=some x
 | (t,v)::r,i,x,hn,hm=>by
  simp only [List.map_cons,zaR,Bool.and_eq_true,Bool.not_eq_true'] at hn
  rcases List.mem_cons.1 hm with he | hr
  ·cases he
   simp [za5]
  ·have hne:i≠t:=by
    rintro rfl
    have:=List.any_eq_false.1 hn.1 i (List.mem_map.2 ⟨(i,x),hr,rfl⟩)
    simp at this
   have hb:Nat.beq i t=false:=by
    cases hb:Nat.beq i t with
    | false=>rfl
    | true=>exact absurd (zC hb) hne
   simp only [za5,hb,cond_false]
   exact zfh hn.2 hr
theorem zci {α:Type}:∀ {l:List (Nat × α)} {i:Nat} {x:α},za5 l i=some x→(i,x)∈l
 | (t,v)::r,i,x,h=>by
  simp only [za5] at h
  cases hb:Nat.beq i t with
  | true =>
   rw [hb] at h
   cases h
   rw [zC hb]
   exact List.mem_cons_self
  | false =>
   rw [hb] at h
   exact List.mem_cons_of_mem _ (zci h)
theorem zeb:∀ (l:List (Nat × Blk)),hpOf l=za5 l
 | []=>by funext i;rfl
 | (t,v)::r=>by funext i;simp only [hpOf,za5,zeb r]
theorem zmJ {c:Nat × Bool} {q q':Cm} (h:zgl c q=some q'):0 < q'.1→q'.1≤q.1∧q.2.1≤q'.2.1:=by
 obtain ⟨d,t⟩:=c
 obtain ⟨d',lo,cv⟩:=q
 cases d with
 | zero =>
  simp only [zgl,Option.some.injEq] at h
  subst h
  exact fun h=>absurd h (Nat.lt_irrefl 0)
 | succ d =>
  cases t with
  | true =>
   simp only [zgl] at h
   cases hb:Nat.ble (d+1) d' with
   | false=>rw [hb] at h;cases h
   | true =>
    rw [hb] at h
    simp only [cond_true,Option.some.injEq] at h
    subst h
    exact fun _=>⟨Nat.le_of_ble_eq_true hb,Nat.le_refl _⟩
  | false =>
   cases lo with
   | succ lo=>simp [zgl] at h
   | zero =>
    simp only [zgl] at h
    cases hb:Nat.ble (d+1) d' with
    | false=>rw [hb] at h;cases h
    | true =>
     rw [hb] at h
     simp only [cond_true,Option.some.injEq] at h
     subst h
     exact fun _=>⟨Nat.le_of_ble_eq_true hb,Nat.le_refl _⟩
def zhi (m:MapM) (hp2:Hp) (m2:MapM) (b:NB):Prop:=hp2 b.1=some b.2.2∧m2 b.1=b.2.1.bind m
def NBok (w:World) (S T:Nat→Prop) (hp:Hp) (m:MapM) (hp2:Hp) (m2:MapM) (b:NB):Prop:=match b.2.2 with
 | .var vs=>∃ id b0 c e,b.2.1=some id∧(∃ cs,hp id=some (.var cs))∧m id=some b0∧w.heap[b0]? = some (.cells c e (0,0))∧Leaves (leafC w S T hp2 m2) c vs
 | .arr e sz ver xs q=>ver=0∧match b.2.1 with
  | none=>xs=[]
  | some id=>∃ n q0,hp id=some (.arr e sz n xs q0)∧(0 < q.1→q.1≤q0.1∧q0.2.1≤q.2.1)
 | .frz _ _ _=>False
theorem zmO {u:Value} {v:AV} (hs:zgq v=true) (h:leafC w S T hp m u v):leafC w S T hp2 m2 u v:=by
 cases v<;>first | cases hs;done | exact h
theorem zj9 {u:Value} {x:KC} {v:AV} {b:List NB} (hk:KCok w S T hp m u x) (h:zgk hp x=some (v,b)) (hA:∀ nb∈b,zhi m hp2 m2 nb):leafC w S T hp2 m2 u v∧∀ nb∈b,NBok w S T hp m hp2 m2 nb:=by
 cases x with
 | k y =>
  simp only [zgk,Option.some.injEq,Prod.mk.injEq] at h
  obtain ⟨rfl,rfl⟩:=h
  exact ⟨zmO hk.1 hk.2,fun nb h=>by cases h⟩
 | z loc e sz d =>
  simp only [zgk,Option.some.injEq,Prod.mk.injEq] at h
  obtain ⟨rfl,rfl⟩:=h
  obtain ⟨h1,h2⟩:=hA _ List.mem_cons_self
  obtain ⟨A,rfl⟩:=hk
  simp only [Option.bind_none] at h1 h2
  refine ⟨?_,fun nb h=>by simp only [List.mem_singleton] at h;subst h;exact ⟨rfl,rfl⟩⟩
  simp only [leafC,h1,h2]
  exact ⟨rfl,Nat.le_refl _,fun _=>⟨rfl,A,rfl⟩⟩
 | o loc id n e sz cc =>
  simp only [zgk] at h
  split at h
  ·rename_i e' sz' m' xs q0 hid
   cases hb:(Nat.beq e' e&&(Nat.beq sz' sz&&Nat.beq m' n)) with
   | false=>rw [hb] at h;cases h
   | true =>
    rw [hb] at h
    simp only [cond_true] at h
    split at h
    case h_2=>cases h
    rename_i q' hq'
    simp only [Option.some.injEq,Prod.mk.injEq] at h
    obtain ⟨rfl,rfl⟩:=h
    simp only [Bool.and_eq_true] at hb
    obtain ⟨b1,b2,b3⟩:=hb
    obtain rfl:=zC b1
    obtain rfl:=zC b2
    obtain rfl:=zC b3
    obtain ⟨h1,h2⟩:=hA _ List.mem_cons_self
    simp only [Option.bind_some] at h1 h2
    refine ⟨?_,fun nb h=>by simp only [List.mem_singleton] at h;subst h;exact ⟨rfl,_,_,hid,zmJ hq'⟩⟩
    simp only [KCok,leafC,hid] at hk
    simp only [leafC,h1,h2]
    exact ⟨hk.1,Nat.le_refl _,fun _=>hk.2.2 trivial⟩
  ·cases h
theorem ziZ:∀ {xs:List KC} {cs:List Value} {vs:List AV} {bs:List NB},zh9 (KCok w S T hp m) cs.toArray xs→zfP hp xs=some (vs,bs)→(∀ nb∈bs,zhi m hp2 m2 nb)→Leaves (leafC w S T hp2 m2) cs.toArray vs∧∀ nb∈bs,NBok w S T hp m hp2 m2 nb
 | [],cs,vs,bs,hk,h,hA=>by
  simp only [zfP,Option.some.injEq,Prod.mk.injEq] at h
  obtain ⟨rfl,rfl⟩:=h
  exact ⟨⟨hk.1,fun j a h=>by simp at h⟩,fun nb h=>by cases h⟩
 | x::r,cs,vs,bs,hk,h,hA=>by
  simp only [zfP] at h
  split at h
  ·rename_i v b vs' bs' h1 h2
   simp only [Option.some.injEq,Prod.mk.injEq] at h
   obtain ⟨rfl,rfl⟩:=h
   cases cs with
   | nil=>have:=hk.1;simp at this
   | cons u cs =>
   obtain ⟨u',hu',hk0⟩:=hk.2 0 x rfl
   simp at hu'
   subst hu'
   obtain ⟨q1,q2⟩:=zj9 hk0 h1 (fun nb h=>hA nb (List.mem_append_left _ h))
   obtain ⟨q3,q4⟩:=ziZ (cs:=cs) ⟨by simpa using hk.1,fun j a ha=>by
    obtain ⟨q,hq,hr⟩:=hk.2 (j+1) a ha
    exact ⟨q,by simpa using hq,hr⟩⟩ h2 (fun nb h=>hA nb (List.mem_append_right _ h))
   refine ⟨⟨by simpa using q3.1,fun j y hy=>?_⟩,fun nb h=>?_⟩
   ·cases j with
    | zero =>
     simp only [List.getElem?_cons_zero,Option.some.injEq] at hy
     subst hy
     exact ⟨u,by simp,q1⟩
    | succ j =>
     obtain ⟨q,hq,hr⟩:=q3.2 j y hy
     exact ⟨q,by simpa using hq,hr⟩
   ·rcases List.mem_append.1 h with h | h
    ·exact q2 nb h
    ·exact q4 nb h
  ·cases h
theorem zmK {u:Value} {x:KV} {v:AV} {b:List NB} (hk:KVok w S T hp m u x) (h:zlm hp x=some (v,b)) (hA:∀ nb∈b,zhi m hp2 m2 nb):AC w S T hp2 m2 u v∧∀ nb∈b,NBok w S T hp m hp2 m2 nb:=by
 cases x with
 | c y =>
  obtain ⟨q1,q2⟩:=zj9 hk h hA
  exact ⟨AC.leaf q1,q2⟩
 | box id off xs =>
  simp only [zlm] at h
  split at h
  ·rename_i vs bs hxs
   simp only [Option.some.injEq,Prod.mk.injEq] at h
   obtain ⟨rfl,rfl⟩:=h
   obtain ⟨b0,c,e,hv,hm,rfl,hc,hl⟩:=hk
   obtain ⟨q1,q2⟩:=ziZ (cs:=c.toList) (by simpa using hl) hxs (fun nb h=>hA nb (List.mem_cons_of_mem _ h))
   obtain ⟨h1,h2⟩:=hA _ List.mem_cons_self
   simp only [Option.bind_some] at h1 h2
   exact ⟨⟨⟨vs,h1⟩,b0,h2.trans hm,rfl⟩,fun nb h=>by
    rcases List.mem_cons.1 h with rfl | h
    ·exact ⟨id,b0,c,e,rfl,hv,hm,hc,by simpa using q1⟩
    ·exact q2 nb h⟩
  ·cases h
theorem zka:∀ {l:List (Nat × KV)} {vs:List (Nat × AV)} {bs:List NB},(∀ p∈l,∃ u,a.tmps[p.1]? = some u∧KVok w S T hp m u p.2)→zb1 hp l=some (vs,bs)→(∀ nb∈bs,zhi m hp2 m2 nb) →
  (∀ p∈vs,∃ u,a.tmps[p.1]? = some u∧AC w S T hp2 m2 u p.2)∧∀ nb∈bs,NBok w S T hp m hp2 m2 nb
 | [],vs,bs,hk,h,hA=>by
  simp only [zb1,Option.some.injEq,Prod.mk.injEq] at h
  obtain ⟨rfl,rfl⟩:=h
  exact ⟨fun p h=>(by cases h),fun nb h=>(by cases h)⟩
 | (t,x)::r,vs,bs,hk,h,hA=>by
  simp only [zb1] at h
  split at h
  ·rename_i v b vs' bs' h1 h2
   simp only [Option.some.injEq,Prod.mk.injEq] at h
   obtain ⟨rfl,rfl⟩:=h
   obtain ⟨u,hu,hk0⟩:=hk _ List.mem_cons_self
   obtain ⟨q1,q2⟩:=zmK hk0 h1 (fun nb h=>hA nb (List.mem_append_left _ h))
   obtain ⟨q3,q4⟩:=zka (fun p hp=>hk p (List.mem_cons_of_mem _ hp)) h2 (fun nb h=>hA nb (List.mem_append_right _ h))
   refine ⟨fun p hp=>?_,fun nb h=>?_⟩
   ·rcases List.mem_cons.1 hp with rfl | hp
    ·exact ⟨u,hu,q1⟩
    ·exact q3 p hp
   ·rcases List.mem_append.1 h with h | h
    ·exact q2 nb h
    ·exact q4 nb h
  ·cases h
theorem zg7 {s i:Nat} {x:Blk}:∀ {l:List NB},(i,some s,x)∈l→s∈srcs l
 | (j,some s',y)::r,h=>by
  rcases List.mem_cons.1 h with h | h
  ·cases h;exact List.mem_cons_self
  ·exact List.mem_cons_of_mem _ (zg7 h)
 | (j,none,y)::r,h=>by
  rcases List.mem_cons.1 h with h | h
  ·cases h
  ·exact zg7 (l:=r) h
theorem ze2 {s i j:Nat} {x y:Blk}:∀ {l:List NB},zaR (srcs l)=true→(i,some s,x)∈l→(j,some s,y)∈l→i=j
 | (k,some s',z)::r,hn,h1,h2=>by
  simp only [srcs,zaR,Bool.and_eq_true,Bool.not_eq_true'] at hn
  have no:∀ {i:Nat} {x:Blk},(i,some s',x)∈r→False:=fun hm=>by
   have:=List.any_eq_false.1 hn.1 s' (zg7 hm)
   simp at this
  rcases List.mem_cons.1 h1 with g1 | g1<;>rcases List.mem_cons.1 h2 with g2 | g2
  ·cases g1;cases g2;rfl
  ·cases g1;exact (no g2).elim
  ·cases g2;exact (no g1).elim
  ·exact ze2 hn.2 g1 g2
 | (k,none,z)::r,hn,h1,h2=>by
  rcases List.mem_cons.1 h1 with h1 | h1<;>rcases List.mem_cons.1 h2 with h2 | h2
  ·cases h1
  ·cases h1
  ·cases h2
  ·exact ze2 (l:=r) hn h1 h2
theorem zeA {h:zap} {σ σ':St} (hR:Rel base w0 S0 T N σ a w) (hc:zb4 call h σ=some σ'):Rel base w0 S0 T N σ' a w:=by
 obtain ⟨r1,r2,S,m,hI,hT⟩:=hR
 unfold zb4 at hc
 split at hc
 ·rename_i lst hp1 l1 hrun
  obtain ⟨S1,s1,f1,k1⟩:=ziK hI hT hrun
  unfold zei at hc
  split at hc
  ·rename_i vs bs hrest
   cases hb:(zaR (bs.map fun b=>b.1)&&zaR (srcs bs)) with
   | false=>rw [hb] at hc;cases hc
   | true =>
    rw [hb] at hc
    simp only [cond_true,Option.some.injEq] at hc
    subst hc
    simp only [Bool.and_eq_true] at hb
    obtain ⟨n1,n2⟩:=hb
    let hp2:Hp:=hpOf (bs.map fun b=>(b.1,b.2.2))
    let m2:MapM:=fun i=>(za5 (bs.map fun b=>(b.1,b.2.1)) i).bind fun s=>s.bind m
    have agree:∀ nb∈bs,zhi m hp2 m2 nb:=by
     intro nb hnb
     refine ⟨?_,?_⟩
     ·simp only [hp2,zeb]
      exact zfh (by rw [List.map_map];exact n1) (List.mem_map.2 ⟨nb,hnb,rfl⟩)
     ·simp only [m2]
      have:=zfh (l:=bs.map fun b=>(b.1,b.2.1)) (i:=nb.1) (x:=nb.2.1) (by rw [List.map_map];exact n1) (List.mem_map.2 ⟨nb,hnb,rfl⟩)
      rw [this]
      rfl
    have back:∀ {i:Nat} {blk:Blk},hp2 i=some blk→∃ s,(i,s,blk)∈bs:=by
     intro i blk hi
     simp only [hp2,zeb] at hi
     obtain ⟨nb,hnb,he⟩:=List.mem_map.1 (zci hi)
     cases he
     exact ⟨nb.2.1,hnb⟩
    obtain ⟨q1,q2⟩:=zka (hp2:=hp2) (m2:=m2) k1 hrest agree
    have whence:∀ {i b:Nat},hot (hp2 i)=true→m2 i=some b→∃ s x,(i,some s,x)∈bs∧m s=some b∧hot (hp1 s)=true:=by
     intro i b hho hm
     cases hi:hp2 i with
     | none=>rw [hi] at hho;cases hho
     | some blk =>
      obtain ⟨s,hmem⟩:=back hi
      have ha:=(agree _ hmem).2
      simp only [] at ha
      rw [hm] at ha
      cases s with
      | none=>cases ha
      | some s =>
       refine ⟨s,blk,hmem,ha.symm,?_⟩
       have:=q2 _ hmem
       cases blk with
       | var vs =>
        obtain ⟨id,b0,c,e,h1,⟨cs,h2⟩,_⟩:=this
        cases h1
        rw [h2];rfl
       | arr e sz ver xs q =>
        obtain ⟨_,n,q0,h1,_⟩:=this
        rw [h1];rfl
       | frz sz ver xs=>exact this.elim
    have I:=s1.inv
    refine ⟨r1,r2,S1,m2,{ below:=I.below,bsz:=I.bsz,tlt:=I.tlt,s0:=I.s0,s1:=I.s1,s0lt:=I.s0lt,slt:=I.slt,rng:=fun i b hho hm=>?_,inj:=fun i j b hi hj hmi hmj=>?_,var:=fun i cs hcs=>?_,arr:=fun i e sz ver xs q hx=>?_,cl:=?_ },fun t v ht=>?_⟩
    ·obtain ⟨s,x,_,hms,hhs⟩:=whence hho hm
     exact I.rng s b hhs hms
    ·obtain ⟨s,x,hm1,hms,hhs⟩:=whence hi hmi
     obtain ⟨s',x',hm2,hms',hhs'⟩:=whence hj hmj
     obtain rfl:=I.inj s s' b hhs hhs' hms hms'
     exact ze2 n2 hm1 hm2
    ·obtain ⟨s,hmem⟩:=back hcs
     obtain ⟨id,b0,c,e,h1,h2,h3,h4,h5⟩:=q2 _ hmem
     have ha:=(agree _ hmem).2
     simp only [] at h1 ha
     subst h1
     exact ⟨b0,c,e,ha.trans h3,h4,h5⟩
    ·obtain ⟨s,hmem⟩:=back hx
     obtain ⟨rfl,hs⟩:=q2 _ hmem
     have ha:=(agree _ hmem).2
     cases s with
     | none =>
      simp only [Option.bind_none] at ha hs
      subst hs
      rw [ha]
      exact ⟨fun i x hx=>by simp at hx,rfl⟩
     | some s =>
      simp only [Option.bind_some] at ha hs
      obtain ⟨n,q0,hs,_⟩:=hs
      rw [ha]
      exact I.arr s e sz n xs q0 hs
    ·obtain ⟨G,hG⟩:=I.cl
     refine ⟨fun i j c k=>∃ s x,(i,some s,x)∈bs∧G s j c k,fun i j c k ⟨s,x,_,hk⟩=>hG.gs s j c k hk,fun i j c i' j' c' k ⟨s,x,hx,hk⟩ ⟨s',x',hx',hk'⟩=>?_,fun i e sz ver xs d lo cv b cur h1 h2 h3 h4 j c x hj hx=>?_⟩
     ·obtain ⟨rfl,h2,h3⟩:=hG.gd _ _ _ _ _ _ _ hk hk'
      exact ⟨ze2 n2 hx hx',h2,h3⟩
     ·obtain ⟨s,hmem⟩:=back h1
      obtain ⟨rfl,hs⟩:=q2 _ hmem
      have ha:=(agree _ hmem).2
      cases s with
      | none =>
       simp only [Option.bind_none] at ha
       rw [ha] at h3
       cases h3
      | some s =>
       simp only [Option.bind_some] at ha hs
       obtain ⟨n,⟨d0,lo0,cv0⟩,hs,hq⟩:=hs
       rw [ha] at h3
       obtain ⟨hq1,hq2⟩:=hq h2
       simp only [] at hq1 hq2
       obtain ⟨u,hu,hf⟩:=hG.gf s e sz n xs d0 lo0 cv0 b cur hs (by omega) h3 h4 j c x (by omega) hx
       exact ⟨u,hu,(hf.down hq1).stab (fun _ _=>rfl) fun k hk=>⟨s,_,hmem,hk⟩⟩
    ·obtain ⟨u,hu,hc⟩:=q1 _ (zci ht)
     exact ⟨u,hu,hc⟩
  ·cases hc
 ·cases hc
end
end Ovi
namespace Ovi
open Go Go.RowKit
def zhN:Blk→Bool
 | .var cs=>cs.all zcq
 | .arr _ _ _ xs q=>depR (depQ q) xs
 | .frz _ _ _=>false
section
variable {P:Program} {G:Gd} {call:zi} {base N:Nat} {w0 w w':World} {S0 S S1 T:Nat→Prop} {hp hp':Hp} {m:MapM}
theorem zmC (hTS:(∀ k,T k→S k)→∀ k,T k→S1 k) (ht:Stab T w w') (hf:∀ id sz ver xs,hp id≠some (.frz sz ver xs)) (hv:∀ id cs,hp id=some (.var cs)→∃ cs',hp' id=some (.var cs'))
  (ho:∀ id e sz ver xs q,hp id=some (.arr e sz ver xs q)→∃ xs' q',hp' id=some (.arr e sz ver xs' q')∧xs'.length=xs.length∧∀ b cur,m id=some b→w.heap[b]? = some (.cells cur e (0,0))→∃ cur',w'.heap[b]? = some (.cells cur' e (0,0))∧cur'.size=cur.size)
  {v:Value} {a:AV} (ha:zcq a=true) (h:leafC w S T hp m v a):leafC w' S1 T hp' m v a:=by
 cases a with
 | d x =>
  cases x with
  | int k n=>cases h;exact .int k n
  | bool b=>cases h;exact .bool b
  | str b =>
   have h:RD w S T v (.str b):=h
   generalize hs:D.str b=X at h
   cases h with
   | str b'=>exact RD.str b'
   | _=>cases hs
  | _=>cases ha
 | s sz l=>exact ⟨h.2.2.mono ht ht (hTS h.2.1) (fun _ h=>h),hTS h.2.1,h.2.2.mono ht ht (fun _ h=>h) (fun _ h=>h)⟩
 | nil sz=>exact h
 | own id ver =>
  simp only [leafC] at h ⊢
  refine ⟨h.1,?_⟩
  replace h:=h.2
  cases hid:hp id with
  | none=>rw [hid] at h;exact h.elim
  | some blk =>
   rw [hid] at h
   cases blk with
   | var cs=>exact h.elim
   | frz sz ver xs=>exact absurd hid (hf id sz ver xs)
   | arr e sz ver' xs q =>
    obtain ⟨xs',q',h1,h2,h3⟩:=ho id e sz ver' xs q hid
    rw [h1]
    refine ⟨h.1,fun he=>?_⟩
    have:=h.2 he
    simp only [h2]
    cases hm:m id with
    | none=>rw [hm] at this;exact this
    | some b =>
     rw [hm] at this
     obtain ⟨cap,cur,k1,k2,k3,k4,k5⟩:=this
     obtain ⟨cur',k6,k7⟩:=h3 b cur hm k2
     exact ⟨cap,cur',k1,k6,k3,k4,k7.trans k5⟩
 | var id off =>
  obtain ⟨⟨cs,h1⟩,h2⟩:=h
  exact ⟨hv id cs h1,h2⟩
 | _=>cases ha
theorem Inv.marked (hI:Inv base w0 w S0 S T hp m) {G:Nat→Nat→Nat→Nat→Prop} (hG:Cl base w S T hp m G) (hmB:∀ id blk,hp id=some blk→zhN blk=true) {M:Nat→Prop} {G':Nat→Nat→Nat→Nat→Prop} (hG':∀ id,¬ M id→G' id=G id) (hGs:∀ id i c k,G' id i c k→∃ i' c',G id i' c' k) (hGi:∀ id i c i' c' k,G' id i c k→G' id i' c' k→i=i'∧c=c')
  (hb:But (fun b=>(∃ id,M id∧m id=some b)∨∃ id i c,M id∧G id i c b) w w') (hn:∀ id,¬ M id→hp' id=hp id)
  (hM:∀ id,M id→∃ e sz ver xs q xs' u,hp id=some (.arr e sz ver xs q)∧hp' id=some (.arr e sz ver xs' (q.1,q.2.1,q.2.2+1))∧xs'.length=xs.length∧rowF w' T (m id) e sz xs' u (G' id) ∧
   ∀ b cur,m id=some b→w.heap[b]? = some (.cells cur e (0,0))→∃ cur',w'.heap[b]? = some (.cells cur' e (0,0))∧cur'.size=cur.size) :
  ∃ S1,Inv base w0 w' S0 S1 T hp' m∧∀ v a,zcq a=true→leafC w S T hp m v a→leafC w' S1 T hp' m v a:=by
 have nof:∀ id sz ver xs,hp id≠some (.frz sz ver xs):=fun id sz ver xs h=>by have:=hmB id _ h;cases this
 have stay:∀ id b cur e,¬ M id→hot (hp id)=true→m id=some b→w.heap[b]? = some (.cells cur e (0,0))→w'.heap[b]? = some (.cells cur e (0,0)):=by
  intro id b cur e hnM hh hm hc
  rw [hb.block b (z6 hc) fun hx=>?_]
  ·exact hc
  ·rcases hx with ⟨id',hM',hm'⟩ | ⟨id',i,c,hM',hg⟩
   ·obtain ⟨e',sz',ver',xs',q',_,_,hid',_⟩:=hM id' hM'
    have:=hI.inj id id' b hh (by rw [hid'];rfl) hm hm'
    exact hnM (this▸hM')
   ·exact (hI.rng id b hh hm).2.2 (hG.gs id' i c b hg).1
 have stayG:∀ id,¬ M id→∀ i c k,G id i c k→w'.heap[k]? = w.heap[k]? := by
  intro id hnM i c k hk
  refine hb.block k (hI.slt k (hG.gs id i c k hk).1) fun hx=>?_
  rcases hx with ⟨id',hM',hm'⟩ | ⟨id',i',c',hM',hg⟩
  ·obtain ⟨e',sz',ver',xs',q',_,_,hid',_⟩:=hM id' hM'
   exact (hI.rng id' k (by rw [hid'];rfl) hm').2.2 (hG.gs id i c k hk).1
  ·exact hnM ((hG.gd id i c id' i' c' k hk hg).1▸hM')
 have xb:∀ k,((∃ id,M id∧m id=some k)∨∃ id i c,M id∧G id i c k)→base≤k:=by
  intro k hx
  rcases hx with ⟨id',hM',hm'⟩ | ⟨id',i',c',hM',hg⟩
  ·obtain ⟨e',sz',ver',xs',q',_,_,hid',_⟩:=hM id' hM'
   exact (hI.rng id' k (by rw [hid'];rfl) hm').1
  ·exact (hG.gs _ _ _ _ hg).2.1
 have below:Below base w w':=⟨hb.os,hb.tape,hb.output,hb.size,fun k hk=>hb.block k (Nat.lt_of_lt_of_le hk hI.bsz) fun hx=>by have:=xb k hx;omega⟩
 have hT:Stab T w w':=fun k hk=>hb.block k (hI.tl hk) fun hx=>by
  rcases hx with ⟨id',hM',hm'⟩ | ⟨id',i',c',hM',hg⟩
  ·obtain ⟨e',sz',ver',xs',q',_,_,hid',_⟩:=hM id' hM'
   exact hI.hotT (id:=id') (by rw [hid'];rfl) hm' hk
  ·exact (hG.gs _ _ _ _ hg).2.2 hk
 let S1:Nat→Prop:=fun k=>S0 k∨(∃ id i c,G id i c k)∨(T k∧S k)
 have s1S:∀ k,S1 k→S k:=fun k hk=>by
  rcases hk with h | ⟨id,i,c,h⟩ | h
  ·exact hI.s0 k h
  ·exact (hG.gs _ _ _ _ h).1
  ·exact h.2
 have hhot:∀ id,hot (hp' id)=hot (hp id):=fun id=>by
  by_cases h:M id
  ·obtain ⟨e',sz',ver',xs',q',_,_,h1,h2,_⟩:=hM id h
   rw [h1,h2];rfl
  ·rw [hn id h]
 have leaf:∀ v a,zcq a=true→leafC w S T hp m v a→leafC w' S1 T hp' m v a:=by
  intro v a ha h
  refine zmC (fun h k hk=>.inr (.inr ⟨hk,h k hk⟩)) hT nof (fun id cs hid=>?_) (fun id e sz ver xs q hid=>?_) ha h
  ·have:¬ M id:=fun hm=>by
    obtain ⟨_,_,_,_,_,_,_,h1,_⟩:=hM id hm
    rw [hid] at h1;cases h1
   exact ⟨cs,by rw [hn id this];exact hid⟩
  ·by_cases hm:M id
   ·obtain ⟨e',sz',ver',xs',q',xs2,u,h1,h2,h3,h4,h5⟩:=hM id hm
    rw [hid] at h1
    cases h1
    exact ⟨_,_,h2,h3,h5⟩
   ·exact ⟨xs,q,by rw [hn id hm];exact hid,rfl,fun b cur hmb hc=>⟨cur,stay id b cur e hm (by rw [hid];rfl) hmb hc,rfl⟩⟩
 refine ⟨S1,{ below:=hI.below.trans below,bsz:=Nat.le_trans hI.bsz hb.size,tlt:=fun k hk=>(hI.tlt k hk).imp (fun h=>h) fun h=>.inr (.inr ⟨hk,h⟩),s0:=fun k hk=>.inl hk,s1:=fun k hk=>?_,s0lt:=hI.s0lt,slt:=fun k hk=>Nat.lt_of_lt_of_le (hI.slt k (s1S k hk)) hb.size,rng:=fun id b hh hm=>?_,inj:=fun i j b hi hj h1 h2=>hI.inj i j b (by rw [← hhot];exact hi) (by rw [← hhot];exact hj) h1 h2,var:=fun id cs hid=>?_,arr:=fun id e sz ver xs q hid=>?_,cl:=⟨G',⟨fun id i c k hk=>let ⟨i',c',hk⟩:=hGs id i c k hk;⟨.inr (.inl ⟨id,i',c',hk⟩),(hG.gs _ _ _ _ hk).2⟩,fun id i c id' i' c' k hk hk'=>by
   obtain ⟨a,b,h1⟩:=hGs id i c k hk
   obtain ⟨a',b',h2⟩:=hGs id' i' c' k hk'
   obtain ⟨rfl,_⟩:=hG.gd _ _ _ _ _ _ _ h1 h2
   exact ⟨rfl,hGi id i c i' c' k hk hk'⟩,fun id e sz ver xs d lo cv b cur h1 h2 h3 h4 i c x h5 h6=>?_⟩⟩ },leaf⟩
 ·rcases hk with h | ⟨id,i,c,h⟩ | h
  ·exact .inl h
  ·exact .inr (hG.gs _ _ _ _ h).2.1
  ·exact hI.s1 k h.2
 ·obtain ⟨h1,h2,h3⟩:=hI.rng id b (by rw [← hhot];exact hh) hm
  exact ⟨h1,Nat.lt_of_lt_of_le h2 hb.size,fun hk=>h3 (s1S b hk)⟩
 ·have hnM:¬ M id:=fun hm=>by
   obtain ⟨_,_,_,_,_,_,_,_,h1,_⟩:=hM id hm
   rw [hid] at h1;cases h1
  have hid0:hp id=some (.var cs):=by rw [← hn id hnM];exact hid
  obtain ⟨b,c,e,h1,h2,h3⟩:=hI.var id cs hid0
  have hall:=hmB id _ hid0
  exact ⟨b,c,e,h1,stay id b c e hnM (by rw [hid0];rfl) h1 h2,h3.1,fun j a ha=>by
   obtain ⟨u,hu,hl⟩:=h3.2 j a ha
   exact ⟨u,hu,leaf u a (List.all_eq_true.1 hall a (List.mem_of_getElem? ha)) hl⟩⟩
 ·by_cases hm:M id
  ·obtain ⟨e',sz',ver',xs',q',xs2,u,h1,h2,h3,⟨h4,h5,h6⟩,_⟩:=hM id hm
   rw [hid] at h2
   cases h2
   refine ⟨h4,?_⟩
   cases hmi:m id with
   | none=>rw [hmi] at h6;exact h6
   | some b =>
    rw [hmi] at h5 h6
    obtain ⟨cap,cur,k1,k2,k3,k4,k5⟩:=h5
    obtain ⟨cur',k6,k7⟩:=h6
    rw [k2] at k6
    cases k6
    refine ⟨cur,k2,by rw [k5];exact Nat.mul_le_mul_right _ k3,fun i c x hx=>?_⟩
    obtain ⟨v,hv,hr,n,hd,hf⟩:=k7 i c x hx
    exact ⟨zdP hd,v,hv,hr.mono (Stab.refl _ _) (Stab.refl _ _) (fun k hk=>let ⟨i',c',hk⟩:=hGs id i c k hk;.inr (.inl ⟨id,i',c',hk⟩)) fun _ h=>h⟩
  ·rw [hn id hm] at hid
   obtain ⟨h1,h2⟩:=hI.arr id e sz ver xs q hid
   refine ⟨h1,?_⟩
   have hdep:=hmB id _ hid
   cases hmi:m id with
   | none=>rw [hmi] at h2;exact h2
   | some b =>
    rw [hmi] at h2
    obtain ⟨cur,hc,hl,hq⟩:=h2
    refine ⟨cur,stay id b cur e hm (by rw [hid];rfl) hmi hc,hl,fun i c x hx=>?_⟩
    obtain ⟨k1,v,hv,hr⟩:=hq i c x hx
    refine ⟨k1,v,hv,?_⟩
    have hd:depD (depQ q) x=true:=zdQ hdep hx
    have hf:Fo (depQ q) w v x (G id i c):=by
     obtain ⟨d,lo,cv⟩:=q
     cases lo with
     | succ lo=>exact True.intro
     | zero =>
      show Fo d w v x (G id i c)
      cases d with
      | zero=>exact True.intro
      | succ d =>
       obtain ⟨u,hu,hf⟩:=hG.gf id e sz ver xs (d+1) 0 cv b cur hid (Nat.succ_pos _) hmi hc i c x (Nat.zero_le _) hx
       rw [hv] at hu
       cases hu
       exact hf
    have hrd:RD w (G id i c) T v x:=hf.rd hd hr
    exact hrd.mono (fun k hk=>stayG id hm i c k hk) hT (fun k hk=>.inr (.inl ⟨id,i,c,hk⟩)) fun _ h=>h
 ·by_cases hm:M id
  ·obtain ⟨e',sz',ver',xs',q',xs2,u,k1,k2,k3,⟨k4,k5,k6⟩,_⟩:=hM id hm
   rw [h1] at k2
   cases k2
   rw [h3] at k6
   obtain ⟨cur',p1,p2⟩:=k6
   rw [h4] at p1
   cases p1
   obtain ⟨v,hv,hr,n,hd,hf⟩:=p2 i c x h6
   exact ⟨v,hv,hf.up hd⟩
  ·rw [hn id hm] at h1
   have hh:hot (hp id)=true:=by rw [h1];rfl
   have hlt:=(hI.rng id b hh h3).2.1
   have hold:w.heap[b]? = some (.cells cur e (0,0)):=by
    cases hw:w.heap[b]? with
    | none=>rw [Array.getElem?_eq_none_iff] at hw;omega
    | some o =>
     obtain ⟨_,h2'⟩:=hI.arr id e sz ver xs _ h1
     rw [h3] at h2'
     obtain ⟨cur0,hc0,_⟩:=h2'
     have:=stay id b cur0 e hm hh h3 hc0
     rw [h4] at this
     cases this
     rw [← hw];exact hc0
   obtain ⟨u,hu,hf⟩:=hG.gf id e sz ver xs d lo cv b cur h1 h2 h3 hold i c x h5 h6
   exact ⟨u,hu,hf.stab (fun k hk=>stayG id hm i c k hk) fun k hk=>by rw [hG' id hm];exact hk⟩
end
end Ovi
namespace Ovi
open Go Go.RowKit
section
variable {P:Program} {G:Gd} {call:zi} {base N:Nat} {w0 w w':World} {S0 S S1 T:Nat→Prop} {hp hp':Hp} {m:MapM} {l l':Log}
def toM:ML→MCell
 | .row _ e sz _ _ xs=>.row e sz xs
 | .any x=>.any x
theorem zg1:∀ ls:List ML,zf8 ls=encM (ls.map toM)
 | []=>rfl
 | .row _ e sz _ _ xs::r=>by simp only [zf8,List.map_cons,toM,encM,zg1 r]
 | .any x::r=>by simp only [zf8,List.map_cons,toM,encM,zg1 r]
def zlx (hp:Hp) (a:AV):ML→Prop
 | .row id e sz ver q xs=>a=.own id ver∧hp id=some (.arr e sz ver xs q)
 | .any x=>a=.d x∧x.scal=true
theorem zmx {a:AV} {y:ML} (h:(zld a).run call hp l=some (y,hp',l')):hp'=hp∧zlx hp a y:=by
 unfold zld at h
 split at h
 ·rename_i id n
  obtain ⟨b,h1,l1,hb,g⟩:=bind_some (show ((getB id) >>= fun b=>match b with | .arr e sz m xs q=>cond (Nat.beq m n) (HA.ret (ML.row id e sz m q xs)) HA.fail | _=>HA.fail).run call hp l=_ from h)
  obtain ⟨hid,rfl⟩:=zae hb
  split at g
  ·obtain ⟨hm,k⟩:=zB g
   clear g
   obtain rfl:=zC hm
   obtain ⟨rfl,rfl⟩:=ze k
   exact ⟨rfl,rfl,hid⟩
  ·cases g
 ·obtain ⟨rfl,rfl⟩:=ze h;exact ⟨rfl,rfl,rfl⟩
 ·obtain ⟨rfl,rfl⟩:=ze h;exact ⟨rfl,rfl,rfl⟩
 ·obtain ⟨rfl,rfl⟩:=ze h;exact ⟨rfl,rfl,rfl⟩
 ·cases h
theorem ziL:∀ {asv:List AV} {hp hp':Hp} {l l':Log} {ls:List ML},(zjX asv).run call hp l=some (ls,hp',l')→hp'=hp∧ls.length=asv.length∧∀ (j:Nat) y,ls[j]? = some y→∃ a,asv[j]? = some a∧zlx hp a y
 | [],hp,hp',l,l',ls,h=>by
  obtain ⟨rfl,rfl⟩:=ze h
  exact ⟨rfl,rfl,fun j y h=>by simp at h⟩
 | a::r,hp,hp',l,l',ls,h=>by
  obtain ⟨y,h1,l1,hy,g⟩:=bind_some h
  obtain ⟨ys,h2,l2,hr,g1⟩:=bind_some g
  obtain ⟨rfl,rfl⟩:=ze g1
  obtain ⟨rfl,k1⟩:=zmx hy
  obtain ⟨rfl,k2,k3⟩:=ziL hr
  refine ⟨rfl,by simp [k2],fun j z hz=>?_⟩
  cases j with
  | zero=>cases hz;exact ⟨a,rfl,k1⟩
  | succ j=>exact k3 j z (by simpa using hz)
theorem zba {id e sz ver:Nat} {q:Cm} {xs:Rows}:∀ {ls:List ML} {j:Nat},ls[j]? = some (ML.row id e sz ver q xs)→id∈zaM ls
 | [],j,h=>by simp at h
 | y::r,0,h=>by cases h;exact List.mem_cons_self
 | .row _ _ _ _ _ _::r,j+1,h=>List.mem_cons_of_mem _ (zba (ls:=r) (by simpa using h))
 | .any _::r,j+1,h=>zba (ls:=r) (by simpa using h)
theorem zfy {id:Nat}:∀ {ls:List ML},id∈zaM ls→∃ (j e sz ver:Nat) (q:Cm) (xs:Rows),ls[j]? = some (ML.row id e sz ver q xs)
 | [],h=>by cases h
 | .row id' e sz ver q xs::r,h=>by
  rcases List.mem_cons.1 h with rfl | h
  ·exact ⟨0,e,sz,ver,q,xs,rfl⟩
  ·obtain ⟨j,h⟩:=zfy h;exact ⟨j+1,by simpa using h⟩
 | .any _::r,h=>by obtain ⟨j,h⟩:=zfy (ls:=r) h;exact ⟨j+1,by simpa using h⟩
theorem zcg {id e sz ver e' sz' ver':Nat} {q q':Cm} {xs xs':Rows}:∀ {ls:List ML} {j j':Nat},zaR (zaM ls)=true→ls[j]? = some (ML.row id e sz ver q xs)→ls[j']? = some (ML.row id e' sz' ver' q' xs')→j=j'
 | [],j,j',_,h,_=>by simp at h
 | .any _::r,j,j',hn,h,h'=>by
  cases j with
  | zero=>cases h
  | succ j=>cases j' with
   | zero=>cases h'
   | succ j'=>simp only [List.getElem?_cons_succ] at h h';exact congrArg (·+1) (zcg (ls:=r) hn h h')
 | .row id0 _ _ _ _ _::r,j,j',hn,h,h'=>by
  simp only [zaM,zaR,Bool.and_eq_true,Bool.not_eq_true'] at hn
  have no:id0 ∉ zaM r:=fun hm=>by have:=List.any_eq_false.1 hn.1 id0 hm;simp at this
  cases j with
  | zero =>
   cases h
   cases j' with
   | zero=>rfl
   | succ j'=>exact absurd (zba (ls:=r) (by simpa using h')) no
  | succ j=>cases j' with
   | zero=>cases h';exact absurd (zba (ls:=r) (by simpa using h)) no
   | succ j'=>simp only [List.getElem?_cons_succ] at h h';exact congrArg (·+1) (zcg (ls:=r) hn.2 h h')
theorem zdx:∀ {ls:List ML} {cs':List MCell},za4 (ls.map toM) cs'→(encR cs').length=(zaM ls).length
 | [],[],_=>rfl
 | [],_::_,h=>by simp [za4] at h
 | .row _ _ _ _ _ _::r,[],h=>by simp [za4,toM] at h
 | .any _::r,[],h=>by simp [za4,toM] at h
 | .row _ _ _ _ _ _::r,.row _ _ _::r',h=>by
  simp only [List.map_cons,toM,za4] at h
  simp [encR,zaM,zdx h.2.2.2]
 | .row _ _ _ _ _ _::r,.any _::r',h=>by simp [za4,toM] at h
 | .any _::r,.row _ _ _::r',h=>by simp [za4,toM] at h
 | .any _::r,.any _::r',h=>by
  simp only [List.map_cons,toM,za4] at h
  simp only [encR,zaM]
  exact zdx h.2
theorem zgZ {N:Nat} {R:Res} (hN:R.length=N):∀ {ls:List ML} {cs':List MCell} {i:Nat} {hp hp':Hp} {l l':Log} {u:Unit},za4 (ls.map toM) cs'→zaR (zaM ls)=true→(∀ j y,(encR cs')[j]? = some y→R[i+j]? = some y)→(zjg N R i ls).run call hp l=some (u,hp',l') →
  (∀ id,id ∉ zaM ls→hp' id=hp id)∧∀ (j id e sz ver:Nat) q xs,ls[j]? = some (ML.row id e sz ver q xs)→∃ zs,cs'[j]? = some (MCell.row e sz zs)∧zs.length=xs.length∧hp' id=some (.arr e sz ver zs (q.1,q.2.1,q.2.2+1))
 | [],cs',i,hp,hp',l,l',u,hL,hn,hR,h=>by
  obtain ⟨_,rfl⟩:=ze h
  exact ⟨fun _ _=>rfl,fun j id e sz ver q xs h=>by simp at h⟩
 | .any x::r,[],i,hp,hp',l,l',u,hL,hn,hR,h=>by simp [za4,toM] at hL
 | .any x::r,.row _ _ _::r',i,hp,hp',l,l',u,hL,hn,hR,h=>by simp [za4,toM] at hL
 | .any x::r,.any _::r',i,hp,hp',l,l',u,hL,hn,hR,h=>by
  simp only [List.map_cons,toM,za4] at hL
  obtain ⟨h1,h2⟩:=zgZ hN (ls:=r) (cs':=r') hL.2 hn hR h
  refine ⟨h1,fun j id e sz ver q xs hj=>?_⟩
  cases j with
  | zero=>cases hj
  | succ j=>exact h2 j id e sz ver q xs (by simpa using hj)
 | .row id0 e0 sz0 ver0 q0 xs0::r,[],i,hp,hp',l,l',u,hL,hn,hR,h=>by simp [za4,toM] at hL
 | .row id0 e0 sz0 ver0 q0 xs0::r,.any _::r',i,hp,hp',l,l',u,hL,hn,hR,h=>by simp [za4,toM] at hL
 | .row id0 e0 sz0 ver0 q0 xs0::r,.row e1 sz1 xs1::r',i,hp,hp',l,l',u,hL,hn,hR,h=>by
  simp only [List.map_cons,toM,za4] at hL
  obtain ⟨rfl,rfl,hlen,hL⟩:=hL
  simp only [zaM,zaR,Bool.and_eq_true,Bool.not_eq_true'] at hn
  have no:id0 ∉ zaM r:=fun hm=>by have:=List.any_eq_false.1 hn.1 id0 hm;simp at this
  obtain ⟨zs,hz,h⟩:=zat h
  obtain ⟨_,h1,l1,hput,g⟩:=bind_some h
  simp only [putB,HA.run,Option.some.injEq,Prod.mk.injEq] at hput
  obtain ⟨_,rfl,_⟩:=hput
  have hR0:R[i]? = some (false,[.row e1 sz1 xs1]):=by simpa using hR 0 _ (by simp [encR])
  have hzs:zs=xs1:=by
   simp only [resO,zaf,hN,if_true,hR0,Option.bind_some,List.length_cons,List.length_nil,and_self,List.getElem?_cons_zero] at hz
   cases hz;rfl
  subst hzs
  obtain ⟨k1,k2⟩:=zgZ hN (ls:=r) (cs':=r') hL hn.2 (fun j y hj=>by
   have:=hR (j+1) y (by simpa [encR] using hj)
   rwa [show i+(j+1)=i+1+j by omega] at this) g
  refine ⟨fun id hid=>?_,fun j id e sz ver q xs hj=>?_⟩
  ·simp only [zaM,List.mem_cons,not_or] at hid
   rw [k1 id hid.2,zA hid.1]
  ·cases j with
   | zero =>
    cases hj
    exact ⟨zs,rfl,hlen,by rw [k1 _ no,zr]⟩
   | succ j=>exact k2 j id e sz ver q xs (by simpa using hj)
theorem zmB (hC:SoundAt P G call w0 S0) (hI:Inv base w0 w S0 S T hp m) (hmB:∀ id blk,hp id=some blk→zhN blk=true) {f:FuncId} {A B x:AV} {va vb:Value} (hA:AC w S T hp m va A) (hB:AC w S T hp m vb B) (h:(zhM f A B).run call hp l=some (x,hp',l')) :
  zaE P f∧Calls P f #[va,vb] w fun e w'=>∃ k S1,e=.returned (.int .i64 k)∧x=.d (.int .i64 k)∧Inv base w0 w' S0 S1 T hp' m∧∀ u a,zcq a=true→leafC w S T hp m u a→leafC w' S1 T hp' m u a:=by
 unfold zhM at h
 split at h
 ·rename_i n
  obtain ⟨ls,h1,l1,hls,g⟩:=bind_some h
  clear h
  obtain ⟨he1,hlen,hlk⟩:=ziL hls
  rw [he1] at g
  obtain ⟨hnd,g⟩:=zB g
  obtain ⟨r,hr,g⟩:=zfm g
  obtain ⟨_,h2,l2,hbk,g⟩:=bind_some g
  obtain ⟨k',hk',g⟩:=zee g
  obtain ⟨rfl,rfl⟩:=ze g
  clear g
  refine ⟨hC.snd.known _ _ _ hr,?_⟩
  have hvb:vb=.int .i64 n:=by
   have:RD w S T vb (.int .i64 n):=hB
   cases this;rfl
  subst hvb
  have hnt:∀ t,A≠.tup t:=fun t e=>by subst e;cases ls with
   | nil=>simp [AV.cells] at hlen
   | cons y ys=>obtain ⟨a,ha,hy⟩:=hlk 0 y rfl;simp [AV.cells] at ha;subst ha;cases y<;>cases hy.1
  have hcells:=zbR (hA.toVal hnt)
  have hmark:=hC.snd.mark f _ n _ r hr (ls.map toM) (zg1 ls) (by
   refine List.all_eq_true.2 fun c hc=>?_
   obtain ⟨y,hy,rfl⟩:=List.mem_map.1 hc
   obtain ⟨j,hj⟩:=List.getElem?_of_mem hy
   obtain ⟨a,_,hl⟩:=hlk j y hj
   cases y with
   | row _ _ _ _ _ _=>rfl
   | any x=>exact hl.2)
  obtain ⟨cs',k2,hrr,hlike,hcall⟩:=hmark
  have hrl:r.length=(zaM ls).length+1:=by rw [hrr];simp [zdx hlike]
  obtain ⟨b1,b2⟩:=zgZ hrl (i:=0) hlike hnd (fun j y hj=>by rw [hrr,Nat.zero_add,List.getElem?_append_left (List.getElem?_eq_some_iff.1 hj).1];exact hj) hbk
  have hkk:k'=k2:=by
   have:r[(zaM ls).length]? = some (false,[.d (.int .i64 k2)]):=by rw [hrr,List.getElem?_append_right (by rw [zdx hlike];exact Nat.le_refl _),zdx hlike];simp
   simp only [resI,zaf,hrl,if_true,this,Option.bind_some,List.length_cons,List.length_nil,and_self,List.getElem?_cons_zero,D.asI] at hk'
   cases hk';rfl
  subst hkk
  obtain ⟨Gc,hG⟩:=hI.cl
  let mo:Nat→Option Nat:=fun j=>match ls[j]? with | some (.row id _ _ _ _ _)=>m id | _=>none
  let GG:GGs:=fun j i c k=>match ls[j]? with | some (.row id _ _ _ _ _)=>Gc id i c k | _=>False
  have moS:∀ {j b:Nat},mo j=some b→∃ (id e sz ver:Nat) (q:Cm) (xs:Rows),ls[j]? = some (ML.row id e sz ver q xs)∧m id=some b:=by
   intro j b hj
   simp only [mo] at hj
   split at hj
   ·rename_i id e sz ver q xs hjj
    exact ⟨id,e,sz,ver,q,xs,hjj,hj⟩
   ·cases hj
  have GGS:∀ {j i c k:Nat},GG j i c k→∃ (id e sz ver:Nat) (q:Cm) (xs:Rows),ls[j]? = some (ML.row id e sz ver q xs)∧Gc id i c k:=by
   intro j i c k hj
   simp only [GG] at hj
   split at hj
   ·rename_i id e sz ver q xs hjj
    exact ⟨id,e,sz,ver,q,xs,hjj,hj⟩
   ·exact hj.elim
  have moE:∀ {j id e sz ver:Nat} {q:Cm} {xs:Rows},ls[j]? = some (ML.row id e sz ver q xs)→mo j=m id:=fun hj=>by simp only [mo,hj]
  have GGE:∀ {j id e sz ver:Nat} {q:Cm} {xs:Rows},ls[j]? = some (ML.row id e sz ver q xs)→GG j=Gc id:=fun hj=>by funext i c k;simp only [GG,hj]
  have hrowid:∀ {j id e sz ver:Nat} {q:Cm} {xs:Rows},ls[j]? = some (ML.row id e sz ver q xs)→hp id=some (Blk.arr e sz ver xs q):=fun hj=>by
   obtain ⟨a,_,hl⟩:=hlk _ _ hj
   exact hl.2
  have hpre:=hcall w T va va.cells mo GG (fun hb=>by
    cases A<;>first | cases hb;done | skip
    obtain ⟨vs,rfl,_⟩:=hA
    rfl) (fun hb=>by
    have:A.cells=[A]:=by cases A<;>first | rfl | cases hb
    have hs:=hcells.1
    rw [this] at hs hcells
    obtain ⟨u,hu,hlf⟩:=hcells.2 0 A rfl
    have hleaf:leafC w S T hp m va A:=by
     have hv:=hA.toVal hnt
     cases A<;>first | cases hb;done | exact hv
    have h1:=zeJ hleaf
    cases va<;>first | rfl | cases h1) (by rw [hcells.1,List.length_map,hlen]) (fun j y hj=>by
    rw [List.getElem?_map] at hj
    obtain ⟨y',hy,he⟩:=Option.map_eq_some_iff.1 hj
    cases y' with
    | row _ _ _ _ _ _=>cases he
    | any x' =>
     cases he
     refine ⟨by simp only [mo,hy],?_⟩
     obtain ⟨a,ha,hl1,hl2⟩:=hlk j _ hy
     subst hl1
     obtain ⟨u,hu,hrd⟩:=hcells.2 j _ ha
     refine ⟨u,hu,?_⟩
     have hrd:RD w S T u y:=hrd
     cases y with
     | int k n=>cases hrd;exact .int k n
     | bool b=>cases hrd;exact .bool b
     | str b =>
      generalize hs:D.str b=X at hrd
      cases hrd with
      | str b'=>exact RD.str b'
      | _=>cases hs
     | _=>cases hl2) (fun j e sz xs hj=>by
    rw [List.getElem?_map] at hj
    obtain ⟨y',hy,he⟩:=Option.map_eq_some_iff.1 hj
    cases y' with
    | any _=>cases he
    | row id e1 sz1 ver q xs1 =>
     cases he
     obtain ⟨a,ha,hl1,hl2⟩:=hlk j _ hy
     subst hl1
     obtain ⟨u,hu,hlf⟩:=hcells.2 j _ ha
     refine ⟨u,hu,?_⟩
     rw [moE hy,GGE hy]
     obtain ⟨a1,a2⟩:=hI.arr id _ _ _ _ _ hl2
     refine ⟨a1,zbN (AC.leaf hlf) hl2,?_⟩
     cases hmi:m id with
     | none=>rw [hmi] at a2;exact a2
     | some b =>
      rw [hmi] at a2
      obtain ⟨cur,hc,hle,hq⟩:=a2
      refine ⟨cur,hc,fun i c x hx=>?_⟩
      obtain ⟨k1,v,hv,hrd⟩:=hq i c x hx
      have hd:depD (depQ q) x=true:=zdQ (hmB id _ hl2) hx
      have hf:Fo (depQ q) w v x (Gc id i c):=by
       obtain ⟨d,lo,cv⟩:=q
       cases lo with
       | succ lo=>exact True.intro
       | zero =>
        show Fo d w v x (Gc id i c)
        cases d with
        | zero=>exact True.intro
        | succ d =>
         obtain ⟨u',hu',hf⟩:=hG.gf id _ _ ver xs (d+1) 0 cv b cur hl2 (Nat.succ_pos _) hmi hc i c x (Nat.zero_le _) hx
         rw [hv] at hu'
         cases hu'
         exact hf
      exact ⟨v,hv,hf.rd hd hrd,_,hd,hf⟩) (fun j i c j' i' c' b hg hg'=>by
    obtain ⟨id,_,_,_,_,_,hj,hg⟩:=GGS hg
    obtain ⟨id',_,_,_,_,_,hj',hg'⟩:=GGS hg'
    obtain ⟨rfl,h2,h3⟩:=hG.gd _ _ _ _ _ _ _ hg hg'
    exact ⟨zcg hnd hj hj',h2,h3⟩) (fun j j' b hm hm'=>by
    obtain ⟨id,_,_,_,_,_,hj,hm⟩:=moS hm
    obtain ⟨id',_,_,_,_,_,hj',hm'⟩:=moS hm'
    obtain rfl:=hI.inj id id' b (by rw [hrowid hj];rfl) (by rw [hrowid hj'];rfl) hm hm'
    exact zcg hnd hj hj') (fun j i c b hg=>by
    obtain ⟨id,_,_,_,_,_,hj,hg⟩:=GGS hg
    have hs:=(hG.gs _ _ _ _ hg).1
    refine ⟨hI.slt _ hs,fun j' hm'=>?_⟩
    obtain ⟨id',_,_,_,_,_,hj',hm'⟩:=moS hm'
    exact (hI.rng id' b (by rw [hrowid hj'];rfl) hm').2.2 hs)
  refine hpre.mono fun ex w' ⟨hex,hbut,GG',hg1,hg2,hrows⟩=>?_
  let G':Nat→Nat→Nat→Nat→Prop:=fun id i c k=>(id ∉ zaM ls∧Gc id i c k)∨∃ (j e sz ver:Nat) (q:Cm) (xs:Rows),ls[j]? = some (ML.row id e sz ver q xs)∧GG' j i c k
  have hGE:∀ {j id e sz ver:Nat} {q:Cm} {xs:Rows},ls[j]? = some (ML.row id e sz ver q xs)→GG' j=G' id:=fun {j id e sz ver q xs} hj=>by
   funext i c k
   refine propext ⟨fun h=>.inr ⟨j,e,sz,ver,q,xs,hj,h⟩,fun h=>?_⟩
   rcases h with ⟨h,_⟩ | ⟨j',e',sz',ver',q',xs',hj',h⟩
   ·exact absurd (zba hj) h
   ·obtain rfl:=zcg hnd hj hj'
    exact h
  obtain ⟨S1,q1,q2⟩:=Inv.marked (hp':=hp') (M:=fun id=>id∈zaM ls) (G':=G') hI hG hmB (fun id hid=>by
    funext i c k
    refine propext ⟨fun h=>?_,fun h=>.inl ⟨hid,h⟩⟩
    rcases h with ⟨_,h⟩ | ⟨j,_,_,_,_,_,hj,h⟩
    ·exact h
    ·exact absurd (zba hj) hid) (fun id i c k hk=>by
    rcases hk with ⟨_,h⟩ | ⟨j,_,_,_,_,_,hj,h⟩
    ·exact ⟨i,c,h⟩
    ·obtain ⟨i',c',h⟩:=hg1 j i c k h
     rw [GGE hj] at h
     exact ⟨i',c',h⟩) (fun id i c i' c' k hk hk'=>by
    rcases hk with ⟨h0,h⟩ | ⟨j,_,_,_,_,_,hj,h⟩
    ·rcases hk' with ⟨_,h'⟩ | ⟨j',_,_,_,_,_,hj',h'⟩
     ·exact (hG.gd _ _ _ _ _ _ _ h h').2
     ·exact absurd (zba hj') h0
    ·rcases hk' with ⟨h0,h'⟩ | ⟨j',_,_,_,_,_,hj',h'⟩
     ·exact absurd (zba hj) h0
     ·obtain rfl:=zcg hnd hj hj'
      exact hg2 j i c i' c' k h h') (hbut.mono fun b hb=>by
    rcases hb with ⟨j,hj⟩ | ⟨j,i,c,hj⟩
    ·obtain ⟨id,_,_,_,_,_,hj,hm⟩:=moS hj
     exact .inl ⟨id,zba hj,hm⟩
    ·obtain ⟨id,_,_,_,_,_,hj,hg⟩:=GGS hj
     exact .inr ⟨id,i,c,zba hj,hg⟩) (fun id hid=>b1 id hid) (fun id hid=>by
    obtain ⟨j,e,sz,ver,q,xs,hj⟩:=zfy hid
    obtain ⟨zs,hz,hzl,hhp⟩:=b2 j id e sz ver q xs hj
    obtain ⟨u,hu,hrf⟩:=hrows j e sz zs hz
    rw [moE hj,hGE hj] at hrf
    refine ⟨e,sz,ver,xs,q,zs,u,hrowid hj,hhp,hzl,hrf,fun b cur hm hc=>?_⟩
    obtain ⟨a,ha,hl1,hl2⟩:=hlk j _ hj
    subst hl1
    obtain ⟨u',hu',hlf⟩:=hcells.2 j _ ha
    rw [hu] at hu'
    cases hu'
    have ho:=zbN (AC.leaf hlf) hl2
    obtain ⟨_,ho',_⟩:=hrf
    rw [hm] at ho ho'
    obtain ⟨cap,cur1,p1,p2,p3,p4,p5⟩:=ho
    obtain ⟨cap',cur2,r1,r2,r3,r4,r5⟩:=ho'
    rw [hc] at p2
    cases p2
    rw [p1] at r1
    injection r1 with _ _ r6
    subst r6
    exact ⟨cur2,r2,r5.trans p5.symm⟩)
  exact ⟨k',S1,hex,rfl,q1,q2⟩
 ·cases h
end
end Ovi
namespace Ovi
open Go Go.RowKit
def Foot {α:Type} (call:zi) (m:HA α) (h:Hp) (x:α) (h':Hp) (wl:Log):Prop :=
 (∀ id,(true,id) ∉ wl→h' id=h id)∧∀ (h2:Hp) (l2:Log),(∀ p∈wl,h2 p.2=h p.2)→∃ h2',m.run call h2 l2=some (x,h2',wl++l2)∧(∀ id,(true,id)∈wl→h2' id=h' id)∧∀ id,(true,id) ∉ wl→h2' id=h2 id
theorem zmL {α:Type} (call:zi) (m:HA α):∀ {h:Hp} {l:Log} {x:α} {h':Hp} {l':Log},m.run call h l=some (x,h',l')→∃ wl,l'=wl++l∧Foot call m h x h' wl:=by
 induction m with
 | ret a =>
  intro h l x h' l' hr
  cases hr
  exact ⟨[],rfl,fun _ _=>rfl,fun h2 l2 _=>⟨h2,rfl,fun id h=>(by cases h),fun _ _=>rfl⟩⟩
 | fail=>intro h l x h' l' hr;cases hr
 | get id k ih =>
  intro h l x h' l' hr
  obtain ⟨wl,e,f1,f2⟩:=ih (h id) (l:=(false,id)::l) hr
  refine ⟨wl++[(false,id)],by rw [e];simp,fun i hi=>f1 i (fun hm=>hi (List.mem_append_left _ hm)),fun h2 l2 hag=>?_⟩
  have hid:h2 id=h id:=hag (false,id) (by simp)
  obtain ⟨h2',g1,g2,g3⟩:=f2 h2 ((false,id)::l2) (fun p hp=>hag p (List.mem_append_left _ hp))
  refine ⟨h2',?_,fun i hi=>?_,fun i hi=>g3 i (fun hm=>hi (List.mem_append_left _ hm))⟩
  ·simp only [HA.run,hid]
   rw [g1]
   simp
  ·rcases List.mem_append.1 hi with hi | hi
   ·exact g2 i hi
   ·simp at hi
 | put id b k ih =>
  intro h l x h' l' hr
  obtain ⟨wl,e,f1,f2⟩:=ih (h:=updH h id b) (l:=(true,id)::l) hr
  refine ⟨wl++[(true,id)],by rw [e];simp,fun i hi=>?_,fun h2 l2 hag=>?_⟩
  ·have hne:i≠id:=fun e=>hi (by rw [e];simp)
   rw [f1 i (fun hm=>hi (List.mem_append_left _ hm)),zA hne]
  ·obtain ⟨h2',g1,g2,g3⟩:=f2 (updH h2 id b) ((true,id)::l2) (fun p hp=>by
    by_cases hp2:p.2=id
    ·rw [hp2,zr,zr]
    ·rw [zA hp2,zA hp2];exact hag p (List.mem_append_left _ hp))
   refine ⟨h2',?_,fun i hi=>?_,fun i hi=>?_⟩
   ·simp only [HA.run]
    rw [g1]
    simp
   ·by_cases hw:(true,i)∈wl
    ·exact g2 i hw
    ·rcases List.mem_append.1 hi with hi | hi
     ·exact absurd hi hw
     ·simp only [List.mem_singleton,Prod.mk.injEq,true_and] at hi
      subst hi
      rw [g3 i hw,f1 i hw,zr,zr]
   ·have hne:i≠id:=fun e=>hi (by rw [e];simp)
    rw [g3 i (fun hm=>hi (List.mem_append_left _ hm)),zA hne]
 | cnd b x y ihx ihy =>
  intro h l r h' l' hr
  cases b with
  | true=>obtain ⟨wl,e,f1,f2⟩:=ihx (h:=h) (l:=l) hr;exact ⟨wl,e,f1,f2⟩
  | false=>obtain ⟨wl,e,f1,f2⟩:=ihy (h:=h) (l:=l) hr;exact ⟨wl,e,f1,f2⟩
 | oI o k ih =>
  intro h l x h' l' hr
  cases o with
  | none=>cases hr
  | some a=>obtain ⟨wl,e,f1,f2⟩:=ih a (h:=h) (l:=l) hr;exact ⟨wl,e,f1,f2⟩
 | oB o k ih =>
  intro h l x h' l' hr
  cases o with
  | none=>cases hr
  | some a=>obtain ⟨wl,e,f1,f2⟩:=ih a (h:=h) (l:=l) hr;exact ⟨wl,e,f1,f2⟩
 | oS o k ih =>
  intro h l x h' l' hr
  cases o with
  | none=>cases hr
  | some a=>obtain ⟨wl,e,f1,f2⟩:=ih a (h:=h) (l:=l) hr;exact ⟨wl,e,f1,f2⟩
 | oL o k ih =>
  intro h l x h' l' hr
  cases o with
  | none=>cases hr
  | some a=>obtain ⟨wl,e,f1,f2⟩:=ih a (h:=h) (l:=l) hr;exact ⟨wl,e,f1,f2⟩
 | call f asv k ih =>
  intro h l x h' l' hr
  simp only [HA.run] at hr
  cases hc:call f asv with
  | none=>rw [hc] at hr;cases hr
  | some a =>
   rw [hc] at hr
   obtain ⟨wl,e,f1,f2⟩:=ih a (h:=h) (l:=l) hr
   refine ⟨wl,e,f1,fun h2 l2 hag=>?_⟩
   simp only [HA.run,hc]
   exact f2 h2 l2 hag
end Ovi
namespace Ovi
open Go Go.RowKit
def rdO:Operand→List Nat
 | .tmp t=>[t]
 | _=>[]
def rdOs (l:List Operand):List Nat:=l.flatMap rdO
def zmI:Callee→List Nat
 | .value x=>rdO x
 | _=>[]
def opRd:Op→List Nat
 | .move x | .assign x | .box _ x | .load _ x | .unOp _ _ x | .convert _ _ x | .fieldAddr _ x _ | .extract x _ | .nilCheck x=>rdO x
 | .pick c a b=>rdOs [c,a,b]
 | .build _ ps=>rdOs (ps.toList.map fun p=>p.2)
 | .buildSlice _ _ ps=>rdOs (ps.toList.map fun p=>p.2)
 | .store _ a x=>rdOs [a,x]
 | .binOp _ _ x y _=>rdOs [x,y]
 | .makeFunc _ _ caps=>rdOs caps.toList
 | .makeSlice _ x i=>rdOs [x,i]
 | .indexAddr _ x i=>rdOs [x,i]
 | .index _ x i=>rdOs [x,i]
 | .slice _ x lo hi _=>rdOs (x::lo.toList++hi.toList)
 | .call c=>zmI c.callee++rdOs c.args.toList
 | _=>[]
section
variable {P:Program} {sig:FuncId→Sig} {tm tm':Tm}
theorem zay {x:Operand} (h:∀ t∈rdO x,tm' t=tm t):zI tm' x=zI tm x:=by
 cases x<;>first | rfl | exact h _ (by simp [rdO])
theorem zdZ:∀ {xs:List Operand},(∀ t∈rdOs xs,tm' t=tm t)→zcP (zI tm') xs=zcP (zI tm) xs
 | [],_=>rfl
 | x::r,h=>by
  unfold zcP
  rw [zay fun t ht=>h t (by simp only [rdOs,List.flatMap_cons,List.mem_append];exact .inl ht),zdZ fun t ht=>h t (by simp only [rdOs,List.flatMap_cons,List.mem_append];exact .inr ht)]
theorem zcX:∀ {xs:List (Nat × Operand)},(∀ t∈rdOs (xs.map fun p=>p.2),tm' t=tm t)→zbt (zI tm') xs=zbt (zI tm) xs
 | [],_=>rfl
 | (i,x)::r,h=>by
  unfold zbt
  rw [zay fun t ht=>h t (by simp only [rdOs,List.map_cons,List.flatMap_cons,List.mem_append];exact .inl ht),zcX fun t ht=>h t (by simp only [rdOs,List.map_cons,List.flatMap_cons,List.mem_append];exact .inr ht)]
theorem zgM {o:Option Operand} (h:∀ t∈rdOs o.toList,tm' t=tm t):zdD (zI tm') o=zdD (zI tm) o:=by
 cases o with
 | none=>rfl
 | some x =>
  simp only [zdD]
  rw [zay (x:=x) fun t ht=>h t (by simpa [rdOs] using ht)]
theorem zli {dst:Option Nat} {op:Op} {ty:TypeId} (h:∀ t∈opRd op,tm' t=tm t):zcJ P sig (zI tm') dst op ty=zcJ P sig (zI tm) dst op ty:=by
 have one:∀ {x:Operand} {l:List Operand},(∀ t∈rdOs l,tm' t=tm t)→x∈l→zI tm' x=zI tm x:=fun h hx=>zay fun t ht=>h t (List.mem_flatMap.2 ⟨_,hx,ht⟩)
 cases op<;>simp only [opRd] at h<;>simp only [zcJ]<;>try rfl
 case move x=>rw [zay h]
 case assign x=>rw [zay h]
 case box t x=>rw [zay h]
 case load t x=>rw [zay h]
 case unOp t o x=>rw [zay h]
 case convert t o x=>rw [zay h]
 case fieldAddr t x f=>rw [zay h]
 case extract x i=>rw [zay h]
 case nilCheck x=>rw [zay h]
 case pick c a b=>rw [one h (x:=c) (by simp),one h (x:=a) (by simp),one h (x:=b) (by simp)]
 case build t ps=>rw [zcX h]
 case buildSlice t n ps=>rw [zcX h]
 case store t a x=>rw [one h (x:=a) (by simp),one h (x:=x) (by simp)]
 case binOp o t x y yt=>rw [one h (x:=x) (by simp),one h (x:=y) (by simp)]
 case makeFunc f fs cs=>rw [zdZ h]
 case indexAddr t x i=>rw [one h (x:=x) (by simp),one h (x:=i) (by simp)]
 case makeSlice t x i=>rw [one h (x:=x) (by simp),one h (x:=i) (by simp)]
 case index t x i=>rw [one h (x:=x) (by simp),one h (x:=i) (by simp)]
 case slice t x lo hi mx =>
  rw [one h (x:=x) (by simp),zgM (o:=lo) fun t ht=>h t ?_,zgM (o:=hi) fun t ht=>h t ?_]
  ·simp only [rdOs,List.flatMap_cons,List.flatMap_append,List.cons_append,List.mem_append] at ht ⊢;exact .inr (.inr ht)
  ·simp only [rdOs,List.flatMap_cons,List.flatMap_append,List.cons_append,List.mem_append] at ht ⊢;exact .inr (.inl ht)
 case call c =>
  rw [zdZ fun t ht=>h t (List.mem_append_right _ ht)]
  have hc:∀ x,c.callee=.value x→zI tm' x=zI tm x:=fun x hx=>zay fun t ht=>h t (List.mem_append_left _ (by rw [hx];exact ht))
  split
  ·rfl
  ·split
   ·rfl
   ·rename_i x _ hx
    rw [hc x hx]
   ·rfl
   ·rfl
   ·rfl
   ·rfl
   ·rfl
def zer (ops:List Oper) (o:Oper):List Nat:=opRd o.op++match zcf ops o with
 | some (some (t,_))=>[t]
 | _=>[]
variable {call:zi} {ops:List Oper}
structure StepFoot (P:Program) (sig:FuncId→Sig) (call:zi) (ops:List Oper) (o:Oper) (σ σ':St) (l:Log):Prop where
 hp:∀ id,(true,id) ∉ l→σ'.hp id=σ.hp id
 tm:∀ t,o.dst≠some t→σ'.tm t=σ.tm t
 re:∀ σ2:St,(∀ p∈l,σ2.hp p.2=σ.hp p.2)→(∀ t∈zer ops o,σ2.tm t=σ.tm t)→∃ σ2',zaJ P sig call ops o σ2=some (σ2',l)∧(∀ id,(true,id)∈l→σ2'.hp id=σ'.hp id)∧(∀ id,(true,id) ∉ l→σ2'.hp id=σ2.hp id) ∧
  (∀ t,o.dst=some t→σ2'.tm t=σ'.tm t)∧∀ t,o.dst≠some t→σ2'.tm t=σ2.tm t
theorem zcE {tm:Tm} {d:Option Nat} {x:Option AV} {t:Nat} (h:d≠some t):putT tm d x t=tm t:=by
 cases d with
 | none=>rfl
 | some d=>exact zkV (fun e=>h (by rw [e]))
theorem zio {tm tm2:Tm} {d:Option Nat} {x:Option AV} {t:Nat} (h:d=some t):putT tm2 d x t=putT tm d x t:=by
 subst h
 simp only [putT,zfS]
theorem zjy {o:Oper} {σ σ':St} {l:Log} (h:zcl P sig call o σ=some (σ',l)) :
  (∀ id,(true,id) ∉ l→σ'.hp id=σ.hp id)∧(∀ t,o.dst≠some t→σ'.tm t=σ.tm t)∧∀ σ2:St,(∀ p∈l,σ2.hp p.2=σ.hp p.2)→(∀ t∈opRd o.op,σ2.tm t=σ.tm t)→∃ σ2',zcl P sig call o σ2=some (σ2',l)∧(∀ id,(true,id)∈l→σ2'.hp id=σ'.hp id)∧(∀ id,(true,id) ∉ l→σ2'.hp id=σ2.hp id) ∧
   (∀ t,o.dst=some t→σ2'.tm t=σ'.tm t)∧∀ t,o.dst≠some t→σ2'.tm t=σ2.tm t:=by
 unfold zcl at h
 split at h
 ·rename_i v hp' l' hr
  cases h
  obtain ⟨wl,e,f1,f2⟩:=zmL call _ hr
  rw [List.append_nil] at e
  subst e
  refine ⟨f1,fun t ht=>zcE ht,fun σ2 hag htm=>?_⟩
  obtain ⟨h2',g1,g2,g3⟩:=f2 σ2.hp [] hag
  rw [List.append_nil] at g1
  refine ⟨{ tm:=putT σ2.tm o.dst (some v),hp:=h2' },?_,g2,g3,fun t ht=>zio ht,fun t ht=>zcE ht⟩
  unfold zcl
  rw [zli htm,g1]
 ·cases h
theorem zfW {o:Oper} {σ σ':St} {l:Log} (h:zaJ P sig call ops o σ=some (σ',l)):StepFoot P sig call ops o σ σ' l:=by
 unfold zaJ at h
 split at h
 ·cases h
 ·rename_i hg
  obtain ⟨a1,a2,a3⟩:=zjy h
  refine ⟨a1,a2,fun σ2 hag htm=>?_⟩
  obtain ⟨σ2',b1,b2⟩:=a3 σ2 hag (fun t ht=>htm t (List.mem_append_left _ ht))
  exact ⟨σ2',by unfold zaJ;rw [hg];exact b1,b2⟩
 ·rename_i t w hg
  have hrd:∀ σ2:St,(∀ t∈zer ops o,σ2.tm t=σ.tm t)→σ2.tm t=σ.tm t:=fun σ2 htm=>htm t (List.mem_append_right _ (by rw [hg];simp))
  split at h
  ·rename_i b hb
   cases hbw:b==w with
   | true =>
    rw [hbw] at h
    obtain ⟨a1,a2,a3⟩:=zjy (show zcl P sig call o σ=some (σ',l) from h)
    refine ⟨a1,a2,fun σ2 hag htm=>?_⟩
    obtain ⟨σ2',b1,b2⟩:=a3 σ2 hag (fun t ht=>htm t (List.mem_append_left _ ht))
    exact ⟨σ2',by unfold zaJ;rw [hg];simp only [];rw [hrd σ2 htm,hb];simp only [hbw];exact b1,b2⟩
   | false =>
    rw [hbw] at h
    simp only [cond_false,Option.some.injEq,Prod.mk.injEq] at h
    obtain ⟨rfl,rfl⟩:=h
    refine ⟨fun _ _=>rfl,fun t ht=>zcE ht,fun σ2 hag htm=>⟨{ tm:=putT σ2.tm o.dst (some (.tup [])),hp:=σ2.hp },?_,fun id h=>(by cases h),fun _ _=>rfl,fun t ht=>zio ht,fun t ht=>zcE ht⟩⟩
    unfold zaJ;rw [hg];simp only [];rw [hrd σ2 htm,hb];simp only [hbw];rfl
  ·rename_i hb
   simp only [Option.some.injEq,Prod.mk.injEq] at h
   obtain ⟨rfl,rfl⟩:=h
   refine ⟨fun _ _=>rfl,fun t ht=>zcE ht,fun σ2 hag htm=>⟨{ tm:=putT σ2.tm o.dst (some (.tup [])),hp:=σ2.hp },?_,fun id h=>(by cases h),fun _ _=>rfl,fun t ht=>zio ht,fun t ht=>zcE ht⟩⟩
   unfold zaJ;rw [hg];simp only [];rw [hrd σ2 htm,hb]
  ·cases h
def zdn (ops:List Oper) (x y:Oper):Bool :=
 (match x.dst with
  | some d=>!(zer ops y).any (Nat.beq d)&&(match y.dst with | some d'=>!Nat.beq d d' | none=>true)
  | none=>true) &&
 (match y.dst with
  | some d=>!(zer ops x).any (Nat.beq d)
  | none=>true)
theorem zkz {d:Nat} {l:List Nat} (h:(!l.any (Nat.beq d))=true):d ∉ l:=by
 intro hm
 rw [Bool.not_eq_true',List.any_eq_false] at h
 have:=h d hm
 simp at this
theorem zlA {x y:Oper} (h:zdn ops x y=true):(∀ t∈zer ops y,x.dst≠some t)∧(∀ t,x.dst=some t→y.dst≠some t)∧∀ t∈zer ops x,y.dst≠some t:=by
 simp only [zdn,Bool.and_eq_true] at h
 obtain ⟨h1,h2⟩:=h
 refine ⟨fun t ht e=>?_,fun t e e'=>?_,fun t ht e=>?_⟩
 ·rw [e] at h1
  simp only [Bool.and_eq_true] at h1
  exact zkz h1.1 ht
 ·rw [e,e'] at h1
  simp at h1
 ·rw [e] at h2
  exact zkz h2 ht
theorem zjH {l m:Log} (h:zc3 l m=false) {p q:Bool × Nat} (hp:p∈l) (hq:q∈m) (hw:p.1=true∨q.1=true):p.2≠q.2:=by
 intro e
 have:zc3 l m=true:=List.any_eq_true.2 ⟨p,hp,List.any_eq_true.2 ⟨q,hq,by rcases hw with hw | hw<;>simp [hw,e]⟩⟩
 rw [h] at this
 cases this
theorem znt {o1 o2:Oper} {σ σ1 σ2:St} {l1 l2:Log} (hap:zdn ops o1 o2=true) (hcl:zc3 l1 l2=false) (s1:zaJ P sig call ops o1 σ=some (σ1,l1)) (s2:zaJ P sig call ops o2 σ1=some (σ2,l2)) :
  ∃ σ3,zaJ P sig call ops o2 σ=some (σ3,l2)∧zaJ P sig call ops o1 σ3=some (σ2,l1):=by
 obtain ⟨a1,a2,a3⟩:=zlA hap
 have f1:=zfW s1
 have f2:=zfW s2
 have w1:∀ {id:Nat} {q:Bool × Nat},(true,id)∈l1→q∈l2→id≠q.2:=fun h1 h2=>zjH hcl h1 h2 (.inl rfl)
 have w2:∀ {id:Nat} {p:Bool × Nat},p∈l1→(true,id)∈l2→p.2≠id:=fun h1 h2=>zjH hcl h1 h2 (.inr rfl)
 obtain ⟨σ3,q1,q2,q3,q4,q5⟩:=f2.re σ (fun p hp=>(f1.hp _ fun hm=>w1 hm hp rfl).symm) (fun t ht=>(f1.tm t (a1 t ht)).symm)
 obtain ⟨σ4,r1,r2,r3,r4,r5⟩:=f1.re σ3 (fun p hp=>q3 _ fun hm=>w2 hp hm rfl) (fun t ht=>q5 t (a3 t ht))
 refine ⟨σ3,q1,?_⟩
 rw [r1]
 have eh:σ4.hp=σ2.hp:=by
  funext id
  by_cases h1:(true,id)∈l1
  ·rw [r2 id h1,f2.hp id fun hm=>w1 h1 hm rfl]
  ·rw [r3 id h1]
   by_cases h2:(true,id)∈l2
   ·exact q2 id h2
   ·rw [q3 id h2,f2.hp id h2,f1.hp id h1]
 have et:σ4.tm=σ2.tm:=by
  funext t
  by_cases h1:o1.dst=some t
  ·rw [r4 t h1,f2.tm t (a2 t h1)]
  ·rw [r5 t h1]
   by_cases h2:o2.dst=some t
   ·exact q4 t h2
   ·rw [q5 t h2,f2.tm t h2,f1.tm t h1]
 cases σ4
 cases σ2
 simp only [] at eh et
 rw [eh,et]
theorem zlB {o:Oper} {post:List Oper} {l:Log} {lq:List Log}:∀ {pre:List Oper} {lp:List Log} {σ σ':St},lp.length=pre.length→(∀ (k:Nat) x lx,pre[k]? = some x→lp[k]? = some lx→zdn ops x o=true∧zc3 lx l=false) →
  zaz P sig call ops (pre++o::post) σ=some (σ',lp++l::lq)→∃ σ1,zaJ P sig call ops o σ=some (σ1,l)∧zaz P sig call ops (pre++post) σ1=some (σ',lp++lq)
 | [],lp,σ,σ',hn,hk,h=>by
  obtain rfl:lp=[]:=List.eq_nil_of_length_eq_zero hn
  simp only [List.nil_append] at h ⊢
  unfold zaz at h
  split at h
  ·rename_i σ1 l1 hs
   split at h
   ·rename_i σ2 ls hr
    cases h
    exact ⟨σ1,hs,hr⟩
   ·cases h
  ·cases h
 | x::pre,[],σ,σ',hn,hk,h=>by simp at hn
 | x::pre,lx::lp,σ,σ',hn,hk,h=>by
  simp only [List.cons_append] at h ⊢
  unfold zaz at h
  split at h
  ·rename_i σa l1 hs
   split at h
   ·rename_i σ2 ls hr
    cases h
    obtain ⟨σb,b1,b2⟩:=zlB (pre:=pre) (lp:=lp) (by simpa using hn) (fun k y ly hy hly=>hk (k+1) y ly hy hly) hr
    obtain ⟨a1,a2⟩:=hk 0 x lx rfl rfl
    obtain ⟨σ3,c1,c2⟩:=znt a1 a2 hs b1
    refine ⟨σ3,c1,?_⟩
    unfold zaz
    rw [c2]
    simp only []
    rw [b2]
   ·cases h
  ·cases h
end
end Ovi
namespace Ovi
open Go Go.RowKit
section
variable {P:Program} {G:Gd} {call:zi} {base N:Nat} {w0 w:World} {S0 S S1 T:Nat→Prop} {hp hp':Hp} {m:MapM} {l l':Log} {a:Act} {σ σ':St} {hs:Hints} {fid:FuncId} {Q:Exit→Act→World→Prop}
theorem zeO {X:Type} {x y:X}:∀ {bs:List NB},zb5 (some x) bs=some y→y=x∧∀ b∈bs,zhN b.2.2=true
 | [],h=>by cases h;exact ⟨rfl,fun b hb=>by cases hb⟩
 | (i,s,.var cs)::r,h=>by
  simp only [zb5] at h
  cases hb:cs.all zcq with
  | false=>rw [hb] at h;cases h
  | true =>
   rw [hb] at h
   obtain ⟨h1,h2⟩:=zeO (bs:=r) h
   refine ⟨h1,fun b hbm=>?_⟩
   rcases List.mem_cons.1 hbm with rfl | hbm
   ·exact hb
   ·exact h2 b hbm
 | (i,s,.arr e sz v xs q)::r,h=>by
  simp only [zb5] at h
  cases hb:depR (depQ q) xs with
  | false=>rw [hb] at h;cases h
  | true =>
   rw [hb] at h
   obtain ⟨h1,h2⟩:=zeO (bs:=r) h
   refine ⟨h1,fun b hbm=>?_⟩
   rcases List.mem_cons.1 hbm with rfl | hbm
   ·exact hb
   ·exact h2 b hbm
 | (i,s,.frz _ _ _)::r,h=>by cases h
theorem zlG {h:zap} (hR:Rel base w0 S0 T N σ a w) (hc:zdr call h σ=some σ'):Rel base w0 S0 T N σ' a w∧(∀ t v,σ'.tm t=some v→zlg v=true)∧∀ id blk,σ'.hp id=some blk→zhN blk=true:=by
 unfold zdr at hc
 cases hrun:(zbq σ.tm h).run call σ.hp [] with
 | none=>rw [hrun] at hc;cases hc
 | some x =>
  obtain ⟨lst,hp1,l1⟩:=x
  rw [hrun] at hc
  simp only [] at hc
  cases hrest:zb1 hp1 lst with
  | none=>rw [hrest] at hc;cases hc
  | some y =>
   obtain ⟨vs,bs⟩:=y
   rw [hrest] at hc
   simp only [] at hc
   cases hm:zhO vs bs with
   | false=>rw [hm] at hc;cases hc
   | true =>
    rw [hm] at hc
    simp only [cond_true] at hc
    obtain ⟨rfl,hbs⟩:=zeO hc
    simp only [zhO,Bool.and_eq_true] at hm
    obtain ⟨n1,n2,n3⟩:=hm
    refine ⟨zeA (call:=call) hR (h:=h) ?_,fun t v ht=>?_,fun id blk hid=>?_⟩
    ·unfold zb4
     rw [hrun]
     simp only [zei,hrest,n1,n2,Bool.and_self,cond_true]
    ·exact List.all_eq_true.1 n3 _ (zci ht)
    ·simp only [zeb] at hid
     obtain ⟨nb,hnb,he⟩:=List.mem_map.1 (zci hid)
     cases he
     exact hbs nb hnb
theorem zhT (hC:SoundAt P G call w0 S0) {ops:Array Oper} {rest:List Oper} {sig:FuncId→Sig}:∀ {os:List Oper} {σ:St} {a:Act} {w:World} {ls:List Log},os.all (zbX N)=true→Rel base w0 S0 T N σ a w→zaz P sig call ops.toList os σ=some (σ',ls)→(∀ a' w',Rel base w0 S0 T N σ' a' w'→wpList P ops Q rest a' w')→wpList P ops Q (os++rest) a w
 | [],σ,a,w,ls,hd,hR,h,hQ=>by
  cases h
  exact hQ a w hR
 | o::r,σ,a,w,ls,hd,hR,h,hQ=>by
  simp only [List.all_cons,Bool.and_eq_true] at hd
  unfold zaz at h
  split at h
  ·rename_i σ1 l1 hs
   split at h
   ·rename_i σ2 ls2 hr
    cases h
    simp only [List.cons_append]
    unfold wpList
    exact zgp hC hd.1 hR hs _ fun a' w' hR'=>zhT hC hd.2 hR' hr hQ
   ·cases h
  ·cases h
theorem zgP {sig:FuncId→Sig} {ops:List Oper}:∀ {os:List Oper} {σ:St} {ls:List Log},zaz P sig call ops os σ=some (σ',ls)→calm ls=true→σ'.hp=σ.hp∧∀ t,(∀ o∈os,o.dst≠some t)→σ'.tm t=σ.tm t
 | [],σ,ls,h,hc=>by cases h;exact ⟨rfl,fun _ _=>rfl⟩
 | o::r,σ,ls,h,hc=>by
  unfold zaz at h
  split at h
  ·rename_i σ1 l1 hs
   split at h
   ·rename_i σ2 ls2 hr
    cases h
    simp only [calm,List.all_cons,Bool.and_eq_true] at hc
    obtain ⟨k1,k2⟩:=zgP hr hc.2
    have f:=zfW hs
    refine ⟨k1.trans ?_,fun t ht=>?_⟩
    ·funext id
     refine f.hp id fun hm=>?_
     have:=List.all_eq_true.1 hc.1 _ hm
     cases this
    ·rw [k2 t fun o ho=>ht o (List.mem_cons_of_mem _ ho)]
     exact f.tm t (ht o List.mem_cons_self)
   ·cases h
  ·cases h
theorem zgz:∀ {os:List Oper} {tm:Tm} {t:Nat} {v:AV},zds os tm t=some v→(∀ o∈os,o.dst≠some t)∧tm t=some v
 | [],tm,t,v,h=>⟨fun o ho=>by (cases ho),h⟩
 | o::r,tm,t,v,h=>by
  obtain ⟨h1,h2⟩:=zgz (os:=r) h
  by_cases hd:o.dst=some t
  ·rw [hd] at h2
   simp only [putT,zfS] at h2
   cases h2
  ·refine ⟨fun p hp=>?_,?_⟩
   ·rcases List.mem_cons.1 hp with rfl | hp
    ·exact hd
    ·exact h1 p hp
   ·rw [zcE hd] at h2
    exact h2
theorem zmQ {α:Type} {l:List α} {x y:α} (h:l.drop (l.length - 2)=[x,y]):l=l.dropLast.dropLast++[x,y]:=by
 have e:l.dropLast.dropLast=l.take (l.length - 2):=by
  rw [List.dropLast_eq_take,List.dropLast_eq_take,List.take_take,List.length_take]
  congr 1
  omega
 rw [e,← h,List.take_append_drop]
theorem zmD {w':World} {v:Value} {x:AV} (hx:zlg x=true) (hl:∀ u a,zcq a=true→leafC w S T hp m u a→leafC w' S1 T hp' m u a) (h:AC w S T hp m v x):AC w' S1 T hp' m v x:=by
 cases x with
 | agg cs =>
  obtain ⟨vs,e,h1,h2⟩:=h
  refine ⟨vs,e,h1,fun j a ha=>?_⟩
  obtain ⟨u,hu,hlf⟩:=h2 j a ha
  exact ⟨u,hu,hl u a (List.all_eq_true.1 hx a (List.mem_of_getElem? ha)) hlf⟩
 | tup cs=>cases hx
 | d _=>exact hl v (.d _) hx h
 | pv _ _ _ _ _ _=>exact hl v (.pv _ _ _ _ _ _) hx h
 | s _ _=>exact hl v (.s _ _) hx h
 | nil s0=>exact hl v (.nil s0) hx h
 | own s0 s1=>exact hl v (.own s0 s1) hx h
 | var s0 s1=>exact hl v (.var s0 s1) hx h
 | el s0 s1 s2 s3=>exact hl v (.el s0 s1 s2 s3) hx h
 | imm _ _ _=>exact hl v (.imm _ _ _) hx h
 | cap _ _=>exact hl v (.cap _ _) hx h
 | fn _ _=>exact hl v (.fn _ _) hx h
theorem zfv (hC:SoundAt P G call w0 S0) {id:Nat} {ops:Array Oper} {e:Ex} (hd:ops.toList.all (zbX N)=true) (hR:Rel base w0 S0 T N σ a w) (h:zfu P hs call fid id ops.toList σ=some (e,σ')) (hQ:∀ a' w',Rel base w0 S0 T N σ' a' w'→Q .normal a' w') :
  e=.normal∧(Code.region id ops false).wp P Q a w:=by
 unfold zfu at h
 cases hcl:zdr call (hs.loops fid id) σ with
 | none=>rw [hcl] at h;cases h
 | some σ1 =>
  rw [hcl] at h
  simp only [] at h
  obtain ⟨hR1,mv,mb⟩:=zlG hR hcl
  cases hpre:zaz P hs.sig call ops.toList ops.toList.dropLast.dropLast σ1 with
  | none=>rw [hpre] at h;cases h
  | some x =>
   obtain ⟨σ2,ls⟩:=x
   rw [hpre] at h
   simp only [] at h
   cases hcalm:calm ls with
   | false=>rw [hcalm] at h;cases h
   | true =>
    rw [hcalm] at h
    simp only [cond_true] at h
    obtain ⟨ehp,etm⟩:=zgP hpre hcalm
    split at h
    case h_2=>cases h
    rename_i oc oa hdrop
    have hops:=zmQ hdrop
    split at h
    case h_2=>cases h
    rename_i f A B hop
    split at h
    case h_2=>cases h
    rename_i x hp' l' hmk
    split at h
    case h_2=>cases h
    rename_i σ3 l3 hst
    cases h
    refine ⟨rfl,wp_region_list ?_⟩
    have hd':=hd
    rw [hops] at hd'
    simp only [List.all_append,List.all_cons,List.all_nil,Bool.and_true,Bool.and_eq_true] at hd'
    obtain ⟨d1,d2,d3⟩:=hd'
    rw [hops]
    refine zhT hC d1 hR1 hpre fun a2 w2 hR2=>?_
    obtain ⟨r1,r2,S2,m2,hI,hT⟩:=hR2
    unfold zhL at hop
    split at hop
    case h_2=>cases hop
    rename_i c hgu hcall
    split at hop
    case h_2=>cases hop
    rename_i f' x1 x2 hcal hargs
    split at hop
    case h_2=>cases hop
    rename_i A' B' hA hB
    cases hop
    have vA:=zT hT hA
    have vB:=zT hT hB
    have hmb2:∀ id blk,σ2.hp id=some blk→zhN blk=true:=fun id blk hid=>mb id blk (by rw [← ehp];exact hid)
    obtain ⟨hk,hcalls⟩:=zmB hC hI hmb2 vA vB hmk
    unfold wpList
    rw [if_pos (by simp [Region.wanted,hgu])]
    refine .inl ?_
    have hx:(execOp a2.eval oc).run P w2=.ok (.enter f (c.args.map a2.eval)) w2:=by
     simp only [execOp,hcall,resolve,hcal,Act.eval,Deferred.ofValue,Sem.run_bind,Sem.run_pure,Result.andThen_ok,Array.empty_append]
     have:=zho (w:=w2) (cvs:=#[]) (vs:=c.args.map a2.eval) hk
     simpa using this
    unfold Oper.wp
    rw [hx,Oper.upon_enter]
    have hvs:c.args.map a2.eval=#[a2.eval x1,a2.eval x2]:=by
     rw [← Array.toArray_toList (xs:=c.args.map a2.eval),Array.toList_map,hargs];rfl
    rw [hvs]
    refine hcalls.mono fun e w' ⟨k,S3,he,hxx,hI3,hl3⟩=>?_
    subst he
    have hR3:Rel base w0 S0 T N { tm:=putT (zds ops.toList.dropLast.dropLast σ1.tm) oc.dst (some x),hp:=hp' } (a2.put oc.dst (.int .i64 k)) w':=by
     refine ⟨by rw [zda];exact r1,by rw [zeS];exact r2,S3,m2,hI3,?_⟩
     refine TmOk.put (fun t y hy=>?_) (fun d hdd=>by rw [r2];exact zeD d2 d hdd) (fun y hy=>by cases hy;subst hxx;exact RD.int _ _)
     obtain ⟨q1,q2⟩:=zgz hy
     obtain ⟨v,hv,hac⟩:=hT t y (by rw [etm t q1];exact q2)
     exact ⟨v,hv,zmD (mv t y q2) hl3 hac⟩
    unfold wpList
    exact zgp hC d3 hR3 hst _ fun a' w'' hR'=>hQ a' w'' hR'
end
end Ovi
namespace Ovi
open Go Go.RowKit
def zev:Ex→Exit
 | .normal=>.normal
 | .ret=>.ret
 | .exit i=>.exit i
def zar (zaF:List Oper→Bool) (N:Nat):Code→Bool
 | .region _ ops draw=>ops.toList.all (zbX N)&&(!draw||zaF ops.toList)
 | .seq a b=>zar zaF N a&&zar zaF N b
 | .cond _ a b=>zar zaF N a&&zar zaF N b
 | .block _ c=>zar zaF N c
 | .loop c=>zar zaF N c
 | _=>true
def zcc (P:Program) (G:Gd) (zaF:List Oper→Bool):Prop :=
 ∀ (call:zi) (sig:FuncId→Sig) (base N:Nat) (w0:World) (S0 T:Nat→Prop) (σ σ':St) (a:Act) (w:World) (id:Nat) (ops:Array Oper) (ls:List Log) (Q:Exit→Act→World→Prop),SoundAt P G call w0 S0→zaF ops.toList=true→ops.toList.all (zbX N)=true →
  Rel base w0 S0 T N σ a w→zaz P sig call ops.toList ops.toList σ=some (σ',ls)→zfr ops.toList ls=true→(∀ a' w',Rel base w0 S0 T N σ' a' w'→Q .normal a' w')→(Code.region id ops true).wp P Q a w
section
variable {P:Program} {G:Gd} {ds:List Oper→Bool} {call:zi} {base N:Nat} {w0:World} {S0 T:Nat→Prop} {hs:Hints} {fid:FuncId} {k:Nat}
theorem zcS (hD:zcc P G ds) (hC:SoundAt P G call w0 S0):∀ (c:Code) {σ σ':St} {a:Act} {w:World} {e:Ex} {Q:Exit→Act→World→Prop},zar ds N c=true→Rel base w0 S0 T N σ a w→zam P hs call fid k c σ=some (e,σ') →
  (∀ a' w',Rel base w0 S0 T N σ' a' w'→Q (zev e) a' w')→c.wp P Q a w:=by
 intro c
 induction c with
 | skip =>
  intro σ σ' a w e Q hc hR h hQ
  cases h
  exact wp_skip (hQ a w hR)
 | region id ops draw =>
  intro σ σ' a w e Q hc hR h hQ
  simp only [zar,Bool.and_eq_true] at hc
  unfold zam at h
  split at h
  ·cases draw with
   | true=>cases h
   | false =>
    cases e with
    | normal=>exact (zfv hC hc.1 hR h hQ).2
    | ret=>exact absurd (zfv (Q:=fun _ _ _=>True) hC hc.1 hR h fun _ _ _=>True.intro).1 (by simp)
    | exit i=>exact absurd (zfv (Q:=fun _ _ _=>True) hC hc.1 hR h fun _ _ _=>True.intro).1 (by simp)
  split at h
  ·rename_i σ1 ls hrun
   cases hb:(!draw||zfr ops.toList ls) with
   | false=>rw [hb] at h;cases h
   | true =>
    rw [hb] at h
    cases h
    cases draw with
    | false=>exact wp_region_list (zi0 hC hc.1 hR hrun hQ)
    | true=>exact hD call hs.sig base N w0 S0 T _ _ a w id ops ls Q hC hc.2 hc.1 hR hrun hb hQ
  ·cases h
 | seq x y ihx ihy =>
  intro σ σ' a w e Q hc hR h hQ
  simp only [zar,Bool.and_eq_true] at hc
  unfold zam at h
  split at h
  ·rename_i σ1 hx
   exact wp_seq (ihx hc.1 hR hx fun a' w' hR'=>ihy hc.2 hR' h hQ)
  ·rename_i hne
   refine wp_seq (ihx hc.1 hR h fun a' w' hR'=>?_)
   cases e with
   | normal=>exact absurd h (hne σ')
   | ret=>exact hQ a' w' hR'
   | exit i=>exact hQ a' w' hR'
 | cond c x y ihx ihy =>
  intro σ σ' a w e Q hc hR h hQ
  simp only [zar,Bool.and_eq_true] at hc
  unfold zam at h
  split at h
  ·rename_i t ht
   have hb:a.eval c=.bool t:=by
    obtain ⟨_,_,S,m,_,hT⟩:=hR
    exact zca (zT hT ht)
   cases t with
   | true=>exact wp_cond_true hb (ihx hc.1 hR h hQ)
   | false=>exact wp_cond_false hb (ihy hc.2 hR h hQ)
  ·cases h
 | block id c ih =>
  intro σ σ' a w e Q hc hR h hQ
  simp only [zar] at hc
  unfold zam at h
  split at h
  ·rename_i i σ1 hx
   refine wp_block (ih hc hR hx fun a' w' hR'=>?_)
   cases hb:Nat.beq i id with
   | true =>
    rw [hb] at h
    cases h
    simp only [zev,Exit.inBlock,zC hb,if_true]
    exact hQ a' w' hR'
   | false =>
    rw [hb] at h
    cases h
    have hne:i≠id:=fun e=>by rw [e] at hb;simp at hb
    simp only [zev,Exit.inBlock,hne,if_false]
    exact hQ a' w' hR'
  ·rename_i hne
   refine wp_block (ih hc hR h fun a' w' hR'=>?_)
   cases e with
   | normal=>exact hQ a' w' hR'
   | ret=>exact hQ a' w' hR'
   | exit i=>exact absurd h (hne i σ')
 | loop c ih =>
  intro σ σ' a w e Q hc hR h hQ
  simp only [zar] at hc
  unfold zam at h
  split at h
  ·rename_i σ0 h0
   have key:∀ (n:Nat) {σ:St} {a:Act} {w:World},Rel base w0 S0 T N σ a w→zgd (zam P hs call fid k c) (zb4 call (hs.loops fid (zbp c))) n σ=some (e,σ')→Code.rounds P c Q n a w:=by
    intro n
    induction n with
    | zero=>intro σ a w _ h;cases h
    | succ n ihn =>
     intro σ a w hR h
     rw [rounds_succ]
     unfold zgd at h
     split at h
     ·rename_i σ1 hx
      split at h
      ·rename_i σ2 h2
       exact ih hc hR hx fun a' w' hR'=>ihn (zeA hR' h2) h
      ·cases h
     ·rename_i hne
      refine ih hc hR h fun a' w' hR'=>?_
      cases e with
      | normal=>exact absurd h (hne σ')
      | ret=>exact hQ a' w' hR'
      | exit i=>exact hQ a' w' hR'
   exact wp_loop_rounds k (key k (zeA hR h0) h)
  ·cases h
 | exit id =>
  intro σ σ' a w e Q hc hR h hQ
  cases h
  exact wp_exit (hQ a w hR)
 | ret =>
  intro σ σ' a w e Q hc hR h hQ
  cases h
  exact wp_ret (hQ a w hR)
 | _ =>
  intro σ σ' a w e Q hc hR h hQ
  cases h
end
end Ovi
namespace Ovi
open Go Go.RowKit
section
variable {P:Program} {call:zi} {base N:Nat} {w0 w:World} {S0 S T:Nat→Prop} {hp hp1 hp':Hp} {m:MapM} {l l':Log}
def SubH (a b:Hp):Prop:=∀ id x,a id=some x→b id=some x
theorem SubH.refl (a:Hp):SubH a a:=fun _ _ h=>h
theorem SubH.trans {a b c:Hp} (h:SubH a b) (k:SubH b c):SubH a c:=fun i x hx=>k i x (h i x hx)
structure Gone (hp hp1 hp':Hp) (id:Nat) (o:Option RL):Prop where
 was:hot (hp id)=true
 here:(hp1 id).isSome=true
 gone:hp' id=none
 fr:∀ e sz d xs,o=some (.frow e sz d xs)→∃ ver d0 cv,hp id=some (.arr e sz ver xs (d0,0,cv))∧d≤d0
theorem zmu {id:Nat} {b:Blk} {h2:Hp} {l2:Log} (h:(getB id).run call hp1 l=some (b,h2,l2)) (hs:SubH hp1 hp):hp id=some b∧hp1 id=some b∧h2=hp1:=by
 obtain ⟨h1,h2⟩:=zae h
 exact ⟨hs _ _ h1,h1,h2⟩
theorem zhu {kk:Option RK} {u:Value} {v:AV} {y:RL} (hI:Inv base w0 w S0 S T hp m) (hs:SubH hp1 hp) (hu:AC w S T hp m u v) (h:(zf9 kk v).run call hp1 l=some (y,hp',l')) :
  SubH hp' hp1∧∃ id,rlC w S T base (m id) u y∧(zZ (some y)=true→Gone hp hp1 hp' id (some y)):=by
 unfold zf9 at h
 split at h
 ·obtain ⟨rfl,rfl⟩:=ze h
  exact ⟨SubH.refl _,0,hu,fun h=>by cases h⟩
 ·obtain ⟨rfl,rfl⟩:=ze h
  exact ⟨SubH.refl _,0,hu.1,fun h=>by cases h⟩
 ·obtain ⟨rfl,rfl⟩:=ze h
  exact ⟨SubH.refl _,0,hu.1,fun h=>by cases h⟩
 ·obtain ⟨rfl,rfl⟩:=ze h
  exact ⟨SubH.refl _,0,hu,fun h=>by cases h⟩
 ·rename_i id n
  obtain ⟨b,h1,l1,hb,g⟩:=bind_some h
  obtain ⟨hid,hid1,rfl⟩:=zmu hb hs
  clear h hb
  split at g
  ·rename_i e sz ver xs q0
   obtain ⟨hm,k⟩:=zB g
   clear g
   obtain rfl:=zC hm
   have ho:=zbN hu hid
   obtain ⟨a1,a2⟩:=hI.arr _ _ _ _ _ _ hid
   have hrow:rowC w S T base (m id) e sz xs u:=by
    refine ⟨a1,ho,?_⟩
    cases hmi:m id with
    | none=>rw [hmi] at a2;exact a2
    | some b =>
     rw [hmi] at a2
     obtain ⟨r1,r2,r3⟩:=hI.rng id b (by rw [hid];rfl) hmi
     exact ⟨r1,r3,a2⟩
   have hsub:SubH (updH h1 id none) h1:=fun i x hx=>by
    by_cases hi:i=id
    ·subst hi;rw [zr] at hx;cases hx
    ·rwa [zA hi] at hx
   split at k
   ·split at k
    ·rename_i d d' cv
     obtain ⟨hd,k⟩:=zB k
     simp only [HA.run,Option.some.injEq,Prod.mk.injEq] at k
     obtain ⟨rfl,rfl,_⟩:=k
     exact ⟨hsub,id,hrow,fun _=>⟨by rw [hid];rfl,by rw [hid1];rfl,zr _ _ _,fun e1 s1 d1 x1 h=>by cases h;exact ⟨_,_,_,hid,Nat.le_of_ble_eq_true hd⟩⟩⟩
    ·cases k
   ·split at k
    ·rename_i d d' cv
     obtain ⟨hd,k⟩:=zB k
     simp only [HA.run,Option.some.injEq,Prod.mk.injEq] at k
     obtain ⟨rfl,rfl,_⟩:=k
     exact ⟨hsub,id,hrow,fun _=>⟨by rw [hid];rfl,by rw [hid1];rfl,zr _ _ _,fun e1 s1 d1 x1 h=>by cases h;exact ⟨_,_,_,hid,Nat.le_of_ble_eq_true hd⟩⟩⟩
    ·cases k
   ·simp only [HA.run,Option.some.injEq,Prod.mk.injEq] at k
    obtain ⟨rfl,rfl,_⟩:=k
    exact ⟨hsub,id,hrow,fun _=>⟨by rw [hid];rfl,by rw [hid1];rfl,zr _ _ _,fun e1 s1 d1 x1 h=>by cases h⟩⟩
  ·obtain ⟨hm,k⟩:=zB g
   clear g
   obtain rfl:=zC hm
   obtain ⟨rfl,rfl⟩:=ze k
   exact ⟨SubH.refl _,0,zgf hu hid,fun h=>by cases h⟩
  ·cases g
 ·cases h
theorem zgG (hI:Inv base w0 w S0 S T hp m):∀ {ks:List RK} {cs:List AV} {us:List Value} {hp1 hp':Hp} {l l':Log} {ys:List RL},SubH hp1 hp→Leaves (leafC w S T hp m) us.toArray cs→(zg2 ks cs).run call hp1 l=some (ys,hp',l') →
  SubH hp' hp1∧ys.length=cs.length∧∃ ids:Nat→Nat,(∀ (j:Nat) y,ys[j]? = some y→(∃ u,us[j]? = some u∧rlC w S T base (m (ids j)) u y)∧(zZ (some y)=true→Gone hp hp1 hp' (ids j) (some y))) ∧
   ∀ j j',zZ ys[j]? = true→zZ ys[j']? = true→ids j=ids j'→j=j'
 | ks,[],us,hp1,hp',l,l',ys,hs,hl,h=>by
  obtain ⟨rfl,rfl⟩:=ze h
  exact ⟨SubH.refl _,rfl,fun _=>0,fun j y h=>by simp at h,fun j j' h=>by simp [zZ] at h⟩
 | ks,a::r,us,hp1,hp',l,l',ys,hs,hl,h=>by
  obtain ⟨y,h1,l1,hy,g⟩:=bind_some h
  obtain ⟨ys',h2,l2,hr,g1⟩:=bind_some g
  obtain ⟨rfl,rfl⟩:=ze g1
  clear h g g1
  cases us with
  | nil=>have:=hl.1;simp at this
  | cons u us =>
  obtain ⟨u',hu',hlv⟩:=hl.2 0 a rfl
  simp at hu'
  subst hu'
  obtain ⟨b1,id,c1,d1⟩:=zhu hI hs (AC.leaf hlv) hy
  obtain ⟨b2,n2,ids,c2,e2⟩:=zgG hI (us:=us) (b1.trans hs) ⟨by simpa using hl.1,fun j x hx=>by
   obtain ⟨q,hq,hr⟩:=hl.2 (j+1) x hx
   exact ⟨q,by simpa using hq,hr⟩⟩ hr
  refine ⟨b2.trans b1,by simp [n2],fun j=>match j with | 0=>id | j+1=>ids j,fun j z hz=>?_,fun j j' hj hj' he=>?_⟩
  ·cases j with
   | zero =>
    simp only [List.getElem?_cons_zero,Option.some.injEq] at hz
    subst hz
    refine ⟨⟨u,rfl,c1⟩,fun hrow=>?_⟩
    obtain ⟨g1,g2,g3,g4⟩:=d1 hrow
    refine ⟨g1,g2,?_,g4⟩
    cases hx:hp' id with
    | none=>rfl
    | some x=>rw [b2 id x hx] at g3;cases g3
   | succ j =>
    simp only [List.getElem?_cons_succ] at hz
    obtain ⟨⟨q,hq,hr⟩,hg⟩:=c2 j z hz
    refine ⟨⟨q,hq,hr⟩,fun hrow=>?_⟩
    obtain ⟨g1,g2,g3,g4⟩:=hg hrow
    refine ⟨g1,?_,g3,g4⟩
    obtain ⟨x,hx⟩:=Option.isSome_iff_exists.1 g2
    rw [b1 _ x hx];rfl
  ·have apart:∀ (j:Nat),zZ (some y)=true→zZ ys'[j]? = true→id≠ids j:=by
    intro j h0 hj he
    cases hz:ys'[j]? with
    | none=>rw [hz] at hj;cases hj
    | some z =>
     rw [hz] at hj
     have:=((c2 j z hz).2 hj).here
     rw [← he,(d1 h0).gone] at this
     cases this
   cases j with
   | zero=>cases j' with
    | zero=>rfl
    | succ j'=>exact absurd he (apart j' hj hj')
   | succ j=>cases j' with
    | zero=>exact absurd he.symm (apart j hj' hj)
    | succ j'=>rw [e2 j j' hj hj' he]
theorem zlL {ks:List RK} {u:Value} {v:AV} {p:Bool × List RL} (hI:Inv base w0 w S0 S T hp m) (hs:SubH hp1 hp) (hu:valC w S T hp m u v) (h:(zjO ks v).run call hp1 l=some (p,hp',l')) :
  SubH hp' hp1∧∃ ids:Nat→Nat,oneC w S T base (fun j=>m (ids j)) u p∧(∀ j,zZ p.2[j]? = true→Gone hp hp1 hp' (ids j) p.2[j]?)∧∀ j j',zZ p.2[j]? = true→zZ p.2[j']? = true→ids j=ids j'→j=j':=by
 unfold zjO at h
 split at h
 ·rename_i cs
  obtain ⟨ys,h1,l1,hy,g⟩:=bind_some h
  obtain ⟨rfl,rfl⟩:=ze g
  obtain ⟨vs,rfl,hl⟩:=hu
  obtain ⟨b1,n1,ids,c1,e1⟩:=zgG hI (us:=vs.toList) hs (by simpa using hl) hy
  refine ⟨b1,ids,⟨vs,rfl,by rw [hl.1,n1],fun j y hy=>?_⟩,fun j hj=>?_,e1⟩
  ·obtain ⟨⟨q,hq,hr⟩,_⟩:=c1 j y hy
   exact ⟨q,by simpa using hq,hr⟩
  ·simp only [] at hj
   cases hz:ys[j]? with
   | none=>rw [hz] at hj;cases hj
   | some z=>rw [hz] at hj;exact (c1 j z hz).2 hj
 ·rename_i hne
  obtain ⟨y,h1,l1,hy,g⟩:=bind_some h
  obtain ⟨rfl,rfl⟩:=ze g
  obtain ⟨b1,id,c1,d1⟩:=zhu hI hs (AC.val hu) hy
  refine ⟨b1,fun _=>id,⟨y,rfl,c1⟩,fun j hj=>?_,fun j j' hj hj' _=>?_⟩
  ·cases j with
   | zero=>exact d1 hj
   | succ j=>simp [zZ] at hj
  ·cases j with
   | zero=>cases j' with
    | zero=>rfl
    | succ j'=>simp [zZ] at hj'
   | succ j=>simp [zZ] at hj
theorem zeG (hI:Inv base w0 w S0 S T hp m):∀ {sg:Sig} {vs:List AV} {us:List Value} {hp1 hp':Hp} {l l':Log} {r:Res},SubH hp1 hp→us.length=vs.length→(∀ (i:Nat) v,vs[i]? = some v→∃ u,us[i]? = some u∧valC w S T hp m u v)→(zig sg vs).run call hp1 l=some (r,hp',l') →
  SubH hp' hp1∧r.length=vs.length∧∃ ids:Nat→Nat→Nat,(∀ (i:Nat) p,r[i]? = some p→∃ u,us[i]? = some u∧oneC w S T base (fun j=>m (ids i j)) u p)∧(∀ i j,zZ (zR r i j)=true→Gone hp hp1 hp' (ids i j) (zR r i j)) ∧
   ∀ i j i' j',zZ (zR r i j)=true→zZ (zR r i' j')=true→ids i j=ids i' j'→i=i'∧j=j'
 | sg,[],us,hp1,hp',l,l',r,hs,hn,hl,h=>by
  obtain ⟨rfl,rfl⟩:=ze h
  exact ⟨SubH.refl _,rfl,fun _ _=>0,fun i p h=>by simp at h,fun i j h=>by simp [zR,zZ] at h,fun i j i' j' h=>by simp [zR,zZ] at h⟩
 | sg,v::vs,us,hp1,hp',l,l',r,hs,hn,hl,h=>by
  obtain ⟨p,h1,l1,hy,g⟩:=bind_some h
  obtain ⟨r',h2,l2,hr,g1⟩:=bind_some g
  obtain ⟨rfl,rfl⟩:=ze g1
  clear h g g1
  cases us with
  | nil=>simp at hn
  | cons u us =>
  obtain ⟨u',hu',hlv⟩:=hl 0 v rfl
  simp at hu'
  subst hu'
  obtain ⟨b1,id,c1,d1,e1⟩:=zlL hI hs hlv hy
  obtain ⟨b2,n2,ids,c2,d2,e2⟩:=zeG hI (us:=us) (b1.trans hs) (by simpa using hn) (fun i x hx=>hl (i+1) x hx) hr
  refine ⟨b2.trans b1,by simp [n2],fun i=>match i with | 0=>id | i+1=>ids i,fun i q hq=>?_,fun i j hij=>?_,fun i j i' j' hij hij' he=>?_⟩
  ·cases i with
   | zero =>
    simp only [List.getElem?_cons_zero,Option.some.injEq] at hq
    subst hq
    exact ⟨u,rfl,c1⟩
   | succ i=>exact c2 i q hq
  ·cases i with
   | zero =>
    obtain ⟨g1,g2,g3,g4⟩:=d1 j hij
    refine ⟨g1,g2,?_,g4⟩
    cases hx:hp' (id j) with
    | none=>rfl
    | some x=>rw [b2 _ x hx] at g3;cases g3
   | succ i =>
    obtain ⟨g1,g2,g3,g4⟩:=d2 i j hij
    refine ⟨g1,?_,g3,g4⟩
    obtain ⟨x,hx⟩:=Option.isSome_iff_exists.1 g2
    rw [b1 _ x hx];rfl
  ·have apart:∀ (i j j0:Nat),zZ (zR (p::r') 0 j0)=true→zZ (zR r' i j)=true→id j0≠ids i j:=by
    intro i j j0 h0 hij he
    have:=(d2 i j hij).here
    rw [← he,(d1 j0 h0).gone] at this
    cases this
   cases i with
   | zero=>cases i' with
    | zero=>exact ⟨rfl,e1 j j' hij hij' he⟩
    | succ i'=>exact absurd he (apart i' j' j hij hij')
   | succ i=>cases i' with
    | zero=>exact absurd he.symm (apart i j j' hij' hij)
    | succ i'=>obtain ⟨rfl,rfl⟩:=e2 i j i' j' hij hij' he;exact ⟨rfl,rfl⟩
end
end Ovi
namespace Ovi
open Go
section
variable (P:Program) (call:zi) (hs:Hints) (fid:FuncId)
theorem zi3 (tm:Tm) (t:Nat) (v:Option AV) (h:tm t=v):setT tm t v=tm:=by
 funext i
 unfold setT
 cases hb:Nat.beq i t with
 | true=>rw [Nat.eq_of_beq_eq_true hb,h];rfl
 | false=>rfl
theorem zff {R:Type} (o:Oper) (σ:St) (K:Tm→Hp→Log→Option R):zfe P hs.sig call o σ.tm σ.hp K=(zcl P hs.sig call o σ).bind fun r=>K r.1.tm r.1.hp r.2:=by
 unfold zfe zcl
 rw [HA.runK_eq]
 cases (zcJ P hs.sig (zI σ.tm) o.dst o.op o.type).run call σ.hp [] with
 | none=>rfl
 | some x=>rfl
theorem zh3 {R:Type} (ops:List Oper) (o:Oper) (σ:St) (K:Tm→Hp→Log→Option R):zgo P hs.sig call ops o σ.tm σ.hp K=(zaJ P hs.sig call ops o σ).bind fun r=>K r.1.tm r.1.hp r.2:=by
 unfold zgo zaJ
 split
 ·rfl
 ·exact zff P call hs o σ K
 ·rename_i t w hg
  split
  ·rename_i b hb
   cases b with
   | true =>
    rw [zi3 σ.tm t _ hb]
    cases w with
    | true=>exact zff P call hs o σ K
    | false=>rfl
   | false =>
    rw [zi3 σ.tm t (some (.d (.bool false))) hb]
    cases w with
    | true=>rfl
    | false=>exact zff P call hs o σ K
  ·rfl
  ·rfl
theorem zeU {R:Type} (ops:List Oper):∀ (os:List Oper) (σ:St) (ls:List Log) (K:Tm→Hp→List Log→Option R),zek P hs.sig call ops os σ.tm σ.hp ls K=(zaz P hs.sig call ops os σ).bind fun r=>K r.1.tm r.1.hp (r.2.reverse++ls)
 | [],σ,ls,K=>rfl
 | o::r,σ,ls,K=>by
  unfold zek zaz
  rw [zh3]
  cases zaJ P hs.sig call ops o σ with
  | none=>rfl
  | some x =>
   obtain ⟨σ',l⟩:=x
   simp only [Option.bind_some]
   rw [zeU ops r σ' (l::ls) K]
   cases zaz P hs.sig call ops r σ' with
   | none=>rfl
   | some y =>
    simp only [Option.bind_some,List.reverse_cons,List.append_assoc,List.singleton_append]
theorem ziy {R:Type} (h:zap) (σ:St) (K:Tm→Hp→Option R):zdq call h σ.tm σ.hp K=(zb4 call h σ).bind fun r=>K r.tm r.hp:=by
 unfold zdq zb4
 rw [HA.runK_eq]
 cases (zbq σ.tm h).run call σ.hp [] with
 | none=>rfl
 | some x =>
  simp only [Option.bind_some]
  cases zei x.1 x.2.1<;>rfl
theorem zg8 {R X:Type} (K:Option R) (x:X) (f:X→Option R) (hK:K=f x):∀ bs:List NB,zb5 K bs=(zb5 (some x) bs).bind f
 | []=>by simp [zb5,hK]
 | (a,b,.var cs)::r=>by
  simp only [zb5]
  cases cs.all zcq with
  | true=>exact zg8 K x f hK r
  | false=>rfl
 | (a,b,.arr e sz v xs q)::r=>by
  simp only [zb5]
  cases depR (depQ q) xs with
  | true=>exact zg8 K x f hK r
  | false=>rfl
 | (a,b,.frz _ _ _)::r=>rfl
theorem zk6 {R:Type} (h:zap) (σ:St) (K:Tm→Hp→Option R):zid call h σ.tm σ.hp K=(zdr call h σ).bind fun r=>K r.tm r.hp:=by
 unfold zid zdr
 rw [HA.runK_eq]
 cases (zbq σ.tm h).run call σ.hp [] with
 | none=>rfl
 | some x =>
  simp only [Option.bind_some]
  cases zb1 x.2.1 x.1 with
  | none=>rfl
  | some y =>
   obtain ⟨vs,bs⟩:=y
   simp only []
   cases zhO vs bs with
   | true=>exact zg8 _ ({ tm:=za5 vs,hp:=hpOf (bs.map fun b=>(b.1,b.2.2)) }:St) (fun r=>K r.tm r.hp) rfl bs
   | false=>rfl
theorem zk8 {R:Type} (id:Nat) (ops:List Oper) (σ:St) (K:Cont R):zif P hs call fid id ops σ.tm σ.hp K=(zfu P hs call fid id ops σ).bind fun r=>K r.1 r.2.tm r.2.hp:=by
 unfold zif zfu
 rw [zk6]
 cases zdr call (hs.loops fid id) σ with
 | none=>rfl
 | some σ1 =>
  simp only [Option.bind_some]
  rw [zeU]
  cases zaz P hs.sig call ops ops.dropLast.dropLast σ1 with
  | none=>rfl
  | some x =>
   obtain ⟨σ2,ls⟩:=x
   simp only [Option.bind_some,List.append_nil]
   have hc:calm ls.reverse=calm ls:=by simp [calm,List.all_reverse]
   rw [hc]
   cases calm ls with
   | false=>rfl
   | true =>
    simp only [cond_true]
    cases hd:ops.drop (ops.length - 2) with
    | nil=>rfl
    | cons oc r=>cases r with
     | nil=>rfl
     | cons oa r=>cases r with
      | cons _ _=>rfl
      | nil =>
       simp only []
       cases zhL (zI σ2.tm) oc with
       | none=>rfl
       | some y =>
        obtain ⟨f,a,b⟩:=y
        simp only []
        rw [HA.runK_eq]
        cases (zhM f a b).run call σ2.hp [] with
        | none=>rfl
        | some z =>
         obtain ⟨v,hp',l⟩:=z
         simp only [Option.bind_some]
         have:=zh3 P call hs ops oa ({ tm:=putT (zds ops.dropLast.dropLast σ1.tm) oc.dst (some v),hp:=hp' }:St) (fun tm3 hp3 _=>K .normal tm3 hp3)
         rw [this]
         cases zaJ P hs.sig call ops oa ({ tm:=putT (zds ops.dropLast.dropLast σ1.tm) oc.dst (some v),hp:=hp' }:St)<;>rfl
theorem zc4 {R:Type} (k:Nat):∀ (c:Code) (σ:St) (K:Cont R),zaA P hs call fid k c σ.tm σ.hp K=(zam P hs call fid k c σ).bind fun r=>K r.1 r.2.tm r.2.hp:=by
 intro c
 induction c with
 | skip=>intro σ K;rfl
 | region id ops draw =>
  intro σ K
  unfold zaA zam
  cases hs.joins fid id with
  | some t =>
   simp only []
   cases draw with
   | true=>rfl
   | false=>exact zk8 P call hs fid id ops.toList σ K
  | none =>
  simp only []
  rw [zeU]
  cases zaz P hs.sig call ops.toList ops.toList σ with
  | none=>rfl
  | some x =>
   obtain ⟨σ',ls⟩:=x
   simp only [Option.bind_some,zkU,List.append_nil,List.reverse_reverse]
   cases (!draw||zfr ops.toList ls)<;>rfl
 | seq x y ihx ihy =>
  intro σ K
  unfold zaA zam
  rw [ihx]
  cases zam P hs call fid k x σ with
  | none=>rfl
  | some r =>
   obtain ⟨e,σ'⟩:=r
   cases e with
   | normal=>exact ihy σ' K
   | ret=>rfl
   | exit i=>rfl
 | cond c x y ihx ihy =>
  intro σ K
  unfold zaA zam
  split
  ·rename_i t ht
   cases t with
   | true=>exact ihx σ K
   | false=>exact ihy σ K
  ·rfl
 | block id c ih =>
  intro σ K
  unfold zaA zam
  rw [ih]
  cases zam P hs call fid k c σ with
  | none=>rfl
  | some r =>
   obtain ⟨e,σ'⟩:=r
   cases e with
   | normal=>rfl
   | ret=>rfl
   | exit i =>
    simp only [Option.bind_some,zfj]
    cases Nat.beq i id<;>rfl
 | loop c ih =>
  intro σ K
  unfold zaA zam
  rw [ziy]
  cases zb4 call (hs.loops fid (zbp c)) σ with
  | none=>rfl
  | some σ0 =>
   simp only [Option.bind_some]
   have key:∀ (n:Nat) (σ:St),zgc (zaA P hs call fid k c) (zdq call (hs.loops fid (zbp c))) K n σ.tm σ.hp=(zgd (zam P hs call fid k c) (zb4 call (hs.loops fid (zbp c))) n σ).bind fun r=>K r.1 r.2.tm r.2.hp:=by
    intro n
    induction n with
    | zero=>intro σ;rfl
    | succ n ihn =>
     intro σ
     unfold zgc zgd
     rw [ih]
     cases zam P hs call fid k c σ with
     | none=>rfl
     | some r =>
      obtain ⟨e,σ'⟩:=r
      cases e with
      | normal =>
       simp only [Option.bind_some]
       rw [ziy]
       cases zb4 call (hs.loops fid (zbp c)) σ' with
       | none=>rfl
       | some σ2=>exact ihn σ2
      | ret=>rfl
      | exit i=>rfl
   exact key k σ0
 | exit id=>intro σ K;rfl
 | ret=>intro σ K;rfl
 | _=>intro σ K;rfl
theorem zms (k:Nat) (fn:Func) (args:List AV):zc5 P hs call fid k fn args=match fn.body with | some _=>evFn P hs call fid k fn args | none=>none:=by
 unfold zc5 evFn zfk
 cases fn.body with
 | none=>rfl
 | some c =>
  simp only []
  rw [show zc2 args 0=(enter args).tm from rfl,show (fun _=>none:Hp)=(enter args).hp from rfl,zc4 P call hs fid k c (enter args) (endK P hs call fid fn)]
  cases zam P hs call fid k c (enter args) with
  | none=>rfl
  | some r =>
   obtain ⟨e,σ⟩:=r
   have fin:zdj P hs call fid fn σ.tm σ.hp=zbh P hs call fid fn σ:=by
    unfold zdj zbh
    rw [HA.runK_eq]
    cases (zht P (hs.sig fid) σ.tm fn.results.toList).run call σ.hp []<;>rfl
   cases e with
   | normal=>exact fin
   | ret=>exact fin
   | exit i=>rfl
end
end Ovi
namespace Ovi
open Go Go.RowKit
section
variable {P:Program} {G:Gd} {ds:List Oper→Bool} {call:zi} {base N:Nat} {w0 w:World} {S0 S T:Nat→Prop} {hp hp1 hp':Hp} {m:MapM} {l l':Log} {tm:Nat→Option AV} {a:Act} {hs:Hints}
def zgj (tmps:Array Value):ResultVar→Sem Value
 | .tmp t=>pure (tmps.getD t undef)
 | .cell a t=>do loadVar t (← asAddr (tmps.getD a undef))
theorem zkH {tmps:Array Value} {t:Nat} {v:Value} (h:tmps[t]? = some v):tmps.getD t undef=v:=by simp [Array.getD_eq_getD_getElem?, h]
theorem zl8 (hI:Inv base w0 w S0 S T hp m) (hT:TmOk w S T hp m tm a.tmps) {r:ResultVar} {v:AV} (h:(zj8 P tm r).run call hp l=some (v,hp',l')):hp'=hp∧∃ u,(zgj a.tmps r).run P w=.ok u w∧valC w S T hp m u v:=by
 cases r with
 | tmp t =>
  obtain ⟨hv,rfl⟩:=zeg h
  have hv':tm t=some v∧∀ l,v≠.tup l:=by
   unfold zeQ at hv
   split at hv
   ·cases hv
   ·rename_i hne
    exact ⟨hv,fun l e=>by rw [e] at hv;exact hne _ hv⟩
  obtain ⟨u,hu,hc⟩:=hT t v hv'.1
  exact ⟨rfl,u,by rw [zgj,zkH hu];rfl,hc.toVal hv'.2⟩
 | cell p t =>
  simp only [zj8] at h
  split at h
  ·rename_i x hx
   obtain ⟨u,hu,hc⟩:=hT p x hx
   obtain ⟨h1,q,hq,hqc⟩:=zkO (P:=P) (t:=t) hI hc h
   refine ⟨h1,q,?_,hqc⟩
   rw [zgj,zkH hu]
   have:∃ ad,u=.pointer (some ad):=by
    cases u<;>first
     | (rename_i ao;cases ao with | some ad=>exact ⟨ad,rfl⟩ | none=>(simp only [Instr.loadAt,Instr.sureAddr,stuck] at hq;cases hq))
     | (simp only [Instr.loadAt,Instr.sureAddr,stuck] at hq;cases hq)
   obtain ⟨ad,rfl⟩:=this
   exact hq
  ·cases h
theorem zeT (hI:Inv base w0 w S0 S T hp m) (hT:TmOk w S T hp m tm a.tmps):∀ {rs:List ResultVar} {hp':Hp} {l l':Log} {vs:List AV},(ziq P tm rs).run call hp l=some (vs,hp',l')→hp'=hp∧∃ us:List Value,(rs.mapM (zgj a.tmps)).run P w=.ok us w∧us.length=vs.length∧∀ (i:Nat) v,vs[i]? = some v→∃ u,us[i]? = some u∧valC w S T hp m u v
 | [],hp',l,l',vs,h=>by
  obtain ⟨rfl,rfl⟩:=ze h
  exact ⟨rfl,[],rfl,rfl,fun i v h=>by simp at h⟩
 | r::rs,hp',l,l',vs,h=>by
  obtain ⟨v,h1,l1,hv,g⟩:=bind_some h
  obtain ⟨vs',h2,l2,hr,g1⟩:=bind_some g
  obtain ⟨rfl,rfl⟩:=ze g1
  clear h g g1
  obtain ⟨he,u,hu,hc⟩:=zl8 hI hT hv
  rw [he] at hr
  obtain ⟨he2,us,hus,n1,c1⟩:=zeT hI hT hr
  refine ⟨he2,u::us,by simp [List.mapM_cons,hu,hus],by simp [n1],fun i x hx=>?_⟩
  cases i with
  | zero =>
   simp only [List.getElem?_cons_zero,Option.some.injEq] at hx
   subst hx
   exact ⟨u,rfl,hc⟩
  | succ i=>exact c1 i x hx
theorem zgQ {fn:Func} {tmps:Array Value} {us:List Value} (h:(fn.results.toList.mapM (zgj tmps)).run P w=.ok us w):(results fn tmps).run P w=.ok (match us with | [u]=>u | _=>.tuple us.toArray) w:=by
 have e:results fn tmps=(do let vs ← fn.results.mapM (zgj tmps);pure (if h:vs.size=1 then vs[0] else .tuple vs)):=by
  rfl
 rw [e,Array.mapM_eq_mapM_toList]
 simp only [Sem.run_bind,Sem.run_map,h,Result.andThen_ok,Sem.run_pure]
 match us with
 | []=>rfl
 | [u]=>rfl
 | u::v::r=>simp
theorem zgB {n:Nat} (hn:n≤N):∀ {c:Code},zar ds n c=true→zar ds N c=true:=by
 intro c
 induction c with
 | region id ops draw =>
  intro h
  simp only [zar,Bool.and_eq_true,List.all_eq_true] at h ⊢
  refine ⟨fun o ho=>?_,h.2⟩
  have:=h.1 o ho
  unfold zbX at this ⊢
  cases hd:o.dst with
  | none=>rfl
  | some d =>
   rw [hd] at this
   exact Nat.ble_eq_true_of_le (Nat.le_trans (Nat.le_of_ble_eq_true (n:=d+1) this) hn)
 | seq x y ihx ihy=>intro h;simp only [zar,Bool.and_eq_true] at h ⊢;exact ⟨ihx h.1,ihy h.2⟩
 | cond c x y ihx ihy=>intro h;simp only [zar,Bool.and_eq_true] at h ⊢;exact ⟨ihx h.1,ihy h.2⟩
 | block id c ih=>intro h;simp only [zar] at h ⊢;exact ih h
 | loop c ih=>intro h;simp only [zar] at h ⊢;exact ih h
 | _=>intro _;rfl
theorem zgY:∀ (asv:List AV) (i j:Nat),zc2 asv i j=if i≤j then asv[j - i]? else none
 | [],i,j=>by simp [zc2]
 | a::r,i,j=>by
  simp only [zc2]
  cases hb:Nat.beq j i with
  | true =>
   obtain rfl:=zC hb
   simp
  | false =>
   have hne:j≠i:=fun e=>by rw [e] at hb;simp at hb
   simp only [cond_false]
   rw [zgY r (i+1) j]
   by_cases h1:i+1≤j
   ·rw [if_pos h1,if_pos (by omega),show j - i=(j - (i+1))+1 by omega,List.getElem?_cons_succ]
   ·rw [if_neg h1,if_neg (by omega)]
theorem znx (hD:zcc P G ds) (hC:Sound P G call) {f k:Nat} {fn:Func} {args:List AV} {r:Res} (hfn:P.funcs[f]? = some fn) (hok:∀ c,fn.body=some c→zar ds fn.ntmps c=true)
  (h:evFn P hs call f k fn args=some r) (hS:∀ k,S k→k < w.heap.size) (hT:∀ k,T k→k < w.heap.size) {vs:Array Value} (hl:Leaves (AC w S T (fun _=>none) (fun _=>none)) vs args) (hG:G.pr S w) :
  Calls P f vs w fun e w'=>∃ v S' mr,e=.returned v∧Below w.heap.size w w'∧(∀ k,S k→S' k)∧(∀ k,S' k→S k∨(w.heap.size≤k∧k < w'.heap.size))∧resC w' S' T w.heap.size mr v r∧frC w' S' w.heap.size mr r:=by
 unfold evFn at h
 split at h
 ·cases h
 ·rename_i c hb
  have hR:Rel w.heap.size w S T (vs++Array.replicate (fn.ntmps - vs.size) undef).size (enter args) { tmps:=vs++Array.replicate (fn.ntmps - vs.size) undef,defers:=[] } w:=by
   refine ⟨rfl,rfl,S,fun _=>none,{ below:=Below.refl _ _,bsz:=Nat.le_refl _,tlt:=fun k hk=>.inl (hT k hk),s0:=fun _ h=>h,s1:=fun _ h=>.inl h,s0lt:=hS,slt:=hS,rng:=fun i b h=>by simp [enter,hot] at h,inj:=fun i j b h=>by simp [enter,hot] at h,var:=fun i cs h=>by simp [enter] at h,arr:=fun i e sz ver xs q h=>by simp [enter] at h,cl:=⟨fun _ _ _ _=>False,fun _ _ _ _ h=>h.elim,fun _ _ _ _ _ _ _ h=>h.elim,fun i e sz ver xs d lo cv b cur h=>by simp [enter] at h⟩ },fun t a ha=>?_⟩
   simp only [enter,zgY,Nat.zero_le,if_true,Nat.sub_zero] at ha
   obtain ⟨u,hu,hc⟩:=hl.2 t a ha
   exact ⟨u,by rw [Array.getElem?_append_left (Array.getElem?_eq_some_iff.1 hu).1];exact hu,hc⟩
  have hsz:fn.ntmps≤(vs++Array.replicate (fn.ntmps - vs.size) undef).size:=by simp;omega
  have hco:=zgB (ds:=ds) hsz (hok c hb)
  have fin:∀ (σ:St) (a':Act) (w':World),zbh P hs call f fn σ=some r→Rel w.heap.size w S T (vs++Array.replicate (fn.ntmps - vs.size) undef).size σ a' w' →
    a'.defers=[]∧∃ v,(results fn a'.tmps).run P w'=.ok v w'∧∃ v' S' mr,Ending.returned v=.returned v'∧Below w.heap.size w w'∧(∀ k,S k→S' k)∧(∀ k,S' k→S k∨(w.heap.size≤k∧k < w'.heap.size))∧resC w' S' T w.heap.size mr v' r∧frC w' S' w.heap.size mr r:=by
   intro σ a' w' hf ⟨h1,h2,S',m,hI,hTm⟩
   refine ⟨h1,?_⟩
   unfold zbh at hf
   split at hf
   ·rename_i r' hp' l' hrun
    cases hf
    obtain ⟨asv,h3,l3,hv,g⟩:=bind_some hrun
    obtain ⟨rfl,us,hus,n1,c1⟩:=zeT hI hTm hv
    obtain ⟨_,n2,ids,o1,o2,o3⟩:=zeG hI (us:=us) (SubH.refl _) n1 c1 g
    refine ⟨_,zgQ hus,_,S',fun i j=>m (ids i j),rfl,hI.below,hI.s0,fun k hk=>?_,⟨⟨us,?_,by rw [n1,n2],o1⟩,?_⟩,?_⟩
    ·rcases hI.s1 k hk with h | h
     ·exact .inl h
     ·exact .inr ⟨h,hI.slt k hk⟩
    ·match us with
     | []=>rfl
     | [u]=>rfl
     | u::v::r=>rfl
    ·intro i j i' j' b hr hr' hb hb'
     exact o3 i j i' j' hr hr' (hI.inj _ _ b (o2 i j hr).was (o2 i' j' hr').was hb hb')
    ·obtain ⟨G,hG⟩:=hI.cl
     refine ⟨fun i j a c k=>zZ (zR r i j)=true∧G (ids i j) a c k,fun i j a c k hk=>⟨(hG.gs _ _ _ _ hk.2).1,(hG.gs _ _ _ _ hk.2).2.1⟩,fun i j a c i' j' a' c' k hk hk'=>?_,fun i j e sz d xs hl b cur hm hc a c x u hx hu=>?_⟩
     ·obtain ⟨g1,g2,g3⟩:=hG.gd _ _ _ _ _ _ _ hk.2 hk'.2
      exact ⟨o3 i j i' j' hk.1 hk'.1 g1,g2,g3⟩
     ·have hrow:zZ (zR r i j)=true:=by rw [hl];rfl
      obtain ⟨ver,d0,cv,h4,h5⟩:=(o2 i j hrow).fr e sz d xs hl
      by_cases hd:d=0
      ·subst hd;exact True.intro
      ·obtain ⟨u',hu',hf⟩:=hG.gf _ e sz ver xs d0 0 cv b cur h4 (by omega) hm hc a c x (Nat.zero_le _) hx
       rw [hu] at hu'
       cases hu'
       exact (hf.down h5).stab (fun _ _=>rfl) fun k hk=>⟨hrow,hk⟩
   ·cases hf
  refine calls_of_wp hfn hb ?_
  split at h
  ·rename_i σ he
   exact zcS hD ⟨hC,hG⟩ c hco hR he fun a' w' hR'=>fin σ a' w' h hR'
  ·rename_i σ he
   exact zcS hD ⟨hC,hG⟩ c hco hR he fun a' w' hR'=>fin σ a' w' h hR'
  ·cases h
structure OkProg (P:Program) (ds:List Oper→Bool):Prop where
 names:∀ (f:FuncId) (fn:Func),P.funcs[f]? = some fn→(fn.name == "runtime.NumGoroutine")=false
 code:∀ (f:FuncId) (fn:Func) (c:Code),P.funcs[f]? = some fn→fn.body=some c→zar ds fn.ntmps c=true
theorem zft (hD:zcc P G ds) (hP:OkProg P ds) {prim:FuncId→Option (Args→Option Res)} (hprim:Sound P G fun f args=>(prim f).bind fun p=>p args):∀ k,Sound P G (zbo P hs prim k):=by
 intro k
 induction k with
 | zero=>exact { known:=fun f args r h=>(nomatch h),plain:=fun f args r h=>(nomatch h),raw:=fun f k e sz xs rest r h=>(nomatch h),mark:=fun f b k xs r h=>(nomatch h) }
 | succ k ih =>
  have key:∀ f args r,zbo P hs prim (k+1) f args=some r→(zaE P f∧zax P G f args r)∧(zco args=true→∃ p,prim f=some p∧p args=some r):=by
   intro f args r h
   unfold zbo at h
   split at h
   ·rename_i p hp
    have h':(prim f).bind (fun p=>p args)=some r:=by simp [hp,h]
    exact ⟨⟨hprim.known f args r h',hprim.plain f args r h'⟩,fun _=>⟨p,hp,h⟩⟩
   ·cases hr:zco args with
    | true=>rw [hr] at h;cases h
    | false =>
     rw [hr] at h
     simp only [cond_false] at h
     refine ⟨?_,fun h=>by cases h⟩
     split at h
     ·rename_i fn hfn
      rw [zms P (zbo P hs prim k) hs f k fn args] at h
      cases hb:fn.body with
      | none=>rw [hb] at h;cases h
      | some c =>
       rw [hb] at h
       refine ⟨⟨fn,hfn,by rw [hb];rfl,hP.names f fn hfn⟩,fun w S T vs hS hT hl hG=>?_⟩
       exact znx hD ih hfn (fun c hc=>hP.code f fn c hfn hc) h hS hT hl hG
     ·cases h
  refine ⟨fun f args r h=>(key f args r h).1.1,fun f args r h=>(key f args r h).1.2,fun f k' e sz xs rest r h=>?_,fun f b k' xs r h=>?_⟩
  ·obtain ⟨p,hp,hpr⟩:=(key f _ r h).2 rfl
   exact hprim.raw f k' e sz xs rest r (by simp [hp,hpr])
  ·obtain ⟨p,hp,hpr⟩:=(key f _ r h).2 rfl
   exact hprim.mark f b k' xs r (by simp [hp,hpr])
end
end Ovi
namespace Ovi
open Go Go.RowKit
theorem zix (e:Edge):zb2 e=Region.binds .any e:=by
 unfold zb2 Region.binds
 cases e.ground<;>rfl
def zdR (ops:List Oper):Nat→List Oper→Bool
 | _,[]=>true
 | i,o::r=>o.after.toList.all (fun e=>!zb2 e||Nat.blt e.on i)&&zdR ops (i+1) r
def zdL (ops:List Oper) (i:Nat) (o:Oper):Nat→List Oper→Bool
 | _,[]=>true
 | j,p::r=>(zbQ ops 4 j i||zdn ops o p)&&zdL ops i o (j+1) r
def zey (ops:List Oper):Nat→List Oper→Bool
 | _,[]=>true
 | i,o::r=>zdL ops i o (i+1) r&&zey ops (i+1) r
def zaF (ops:List Oper):Bool:=zdR ops 0 ops&&zey ops 0 ops
theorem zfs {ops:List Oper}:∀ {os:List Oper} {i:Nat},zdR ops i os=true→∀ (k:Nat) o,os[k]? = some o→∀ e∈o.after.toList,zb2 e=true→e.on < i+k
 | [],i,h,k,o,hk=>by simp at hk
 | x::r,i,h,k,o,hk=>by
  simp only [zdR,Bool.and_eq_true,List.all_eq_true] at h
  cases k with
  | zero =>
   simp only [List.getElem?_cons_zero,Option.some.injEq] at hk
   subst hk
   intro e he hb
   have:=h.1 e he
   rw [hb] at this
   have h2:e.on < i:=by simpa using this
   omega
  | succ k =>
   simp only [List.getElem?_cons_succ] at hk
   intro e he hb
   have:=zfs h.2 k o hk e he hb
   omega
theorem zfg {ops:List Oper} {i:Nat} {o:Oper}:∀ {os:List Oper} {j:Nat},zdL ops i o j os=true→∀ (k:Nat) p,os[k]? = some p→zbQ ops 4 (j+k) i=true∨zdn ops o p=true
 | [],j,h,k,p,hk=>by simp at hk
 | x::r,j,h,k,p,hk=>by
  simp only [zdL,Bool.and_eq_true,Bool.or_eq_true] at h
  cases k with
  | zero =>
   simp only [List.getElem?_cons_zero,Option.some.injEq] at hk
   subst hk
   exact h.1
  | succ k =>
   have:=zfg h.2 k p hk
   rwa [show j+1+k=j+(k+1) by omega] at this
theorem zgw {ops:List Oper}:∀ {os:List Oper} {i:Nat},zey ops i os=true→∀ (k k':Nat) o p,k < k'→os[k]? = some o→os[k']? = some p→zbQ ops 4 (i+k') (i+k)=true∨zdn ops o p=true
 | [],i,h,k,k',o,p,hlt,hk,hk'=>by simp at hk
 | x::r,i,h,k,k',o,p,hlt,hk,hk'=>by
  simp only [zey,Bool.and_eq_true] at h
  cases k' with
  | zero=>omega
  | succ k' =>
   simp only [List.getElem?_cons_succ] at hk'
   cases k with
   | zero =>
    simp only [List.getElem?_cons_zero,Option.some.injEq] at hk
    subst hk
    have:=zfg h.1 k' p hk'
    rwa [show i+1+k'=i+(k'+1) by omega] at this
   | succ k =>
    simp only [List.getElem?_cons_succ] at hk
    have:=zgw h.2 k k' o p (by omega) hk hk'
    rwa [show i+1+k'=i+(k'+1) by omega,show i+1+k=i+(k+1) by omega] at this
theorem ziR {ops:List Oper} {i:Nat} {l:Log}:∀ {ls:List Log} {j:Nat},zhQ ops i l j ls=true→∀ (k:Nat) m,ls[k]? = some m→zc3 l m=false∨zbQ ops 4 (j+k) i=true
 | [],j,h,k,m,hk=>by simp at hk
 | x::r,j,h,k,m,hk=>by
  simp only [zhQ,Bool.and_eq_true] at h
  cases k with
  | zero =>
   simp only [List.getElem?_cons_zero,Option.some.injEq] at hk
   subst hk
   cases hc:zc3 l x with
   | false=>exact .inl rfl
   | true=>rw [hc] at h;exact .inr h.1
  | succ k =>
   simp only [List.getElem?_cons_succ] at hk
   have:=ziR h.2 k m hk
   rwa [show j+1+k=j+(k+1) by omega] at this
theorem zgF {ops:List Oper}:∀ {ls:List Log} {i:Nat},zeC ops i ls=true→∀ (k k':Nat) l m,k < k'→ls[k]? = some l→ls[k']? = some m→zc3 l m=false∨zbQ ops 4 (i+k') (i+k)=true
 | [],i,h,k,k',l,m,hlt,hk,hk'=>by simp at hk
 | x::r,i,h,k,k',l,m,hlt,hk,hk'=>by
  simp only [zeC,Bool.and_eq_true] at h
  cases k' with
  | zero=>omega
  | succ k' =>
   simp only [List.getElem?_cons_succ] at hk'
   cases k with
   | zero =>
    simp only [List.getElem?_cons_zero,Option.some.injEq] at hk
    subst hk
    have:=ziR h.1 k' m hk'
    rwa [show i+1+k'=i+(k'+1) by omega] at this
   | succ k =>
    simp only [List.getElem?_cons_succ] at hk
    have:=zgF h.2 k k' l m (by omega) hk hk'
    rwa [show i+1+k'=i+(k'+1) by omega,show i+1+k=i+(k+1) by omega] at this
theorem ze5 {ops:List Oper} {L:Nat→Prop} (hc:∀ k o,L k→ops[k]? = some o→∀ e∈o.after.toList,zb2 e=true→L e.on):∀ (n k j:Nat),(∀ o,ops[k]? = some o→∀ e∈o.after.toList,zb2 e=true→L e.on)→zbQ ops n k j=true→L j
 | 0,k,j,_,h=>by cases h
 | n+1,k,j,hk,h=>by
  unfold zbQ at h
  split at h
  ·rename_i o ho
   rw [Bool.or_eq_true] at h
   rcases h with h | h
   ·obtain ⟨e,he,hb⟩:=List.any_eq_true.1 h
    simp only [Bool.and_eq_true] at hb
    rw [← zC hb.2]
    exact hk o ho e he hb.1
   ·obtain ⟨e,he,hb⟩:=List.any_eq_true.1 h
    simp only [Bool.and_eq_true] at hb
    have hl:=hk o ho e he hb.1
    exact ze5 hc n e.on j (fun o' ho'=>hc e.on o' hl ho') hb.2
  ·cases h
end Ovi
namespace Ovi
open Go Go.RowKit
section
variable {P:Program} {G:Gd} {call:zi} {sig:FuncId→Sig} {base N:Nat} {w0:World} {S0 T:Nat→Prop} {σ':St} {Q:Exit→Act→World→Prop} {ops:Array Oper}
theorem zfN {listed:Array Bool} {i:Nat}:i∈Region.ready .any ops listed↔i < ops.size∧listed.getD i true=false∧((ops[i]?).map (·.after.all fun e=>!Region.binds .any e||listed.getD e.on false)).getD false=true:=by
 unfold Region.ready
 simp only [List.mem_filter,List.mem_range,Bool.and_eq_true,Bool.not_eq_true']
theorem zhS:∀ {os:List Oper} {σ:St} {ls:List Log},zaz P sig call ops.toList os σ=some (σ',ls)→ls.length=os.length
 | [],σ,ls,h=>by cases h;rfl
 | o::r,σ,ls,h=>by
  unfold zaz at h
  split at h
  ·split at h
   ·rename_i hr
    cases h
    simp [zhS hr]
   ·cases h
  ·cases h
def zcs (ops:Array Oper) (rem:List Nat):List Oper:=rem.map fun i=>ops.getD i default
structure Left (ops:Array Oper) (rem:List Nat) (listed:Array Bool) (ls:List Log):Prop where
 size:listed.size=ops.size
 mem:∀ i,i∈rem↔i < ops.size∧listed.getD i true=false
 ord:rem.Pairwise (· < ·)
 closed:∀ k o,listed.getD k false=true→ops.toList[k]? = some o→∀ e∈o.after.toList,zb2 e=true→listed.getD e.on false=true
 logs:∀ (k k' i i':Nat) l l',k < k'→rem[k]? = some i→rem[k']? = some i'→ls[k]? = some l→ls[k']? = some l'→zc3 l l'=false∨zbQ ops.toList 4 i' i=true
theorem zmR (hC:SoundAt P G call w0 S0) (hst:zaF ops.toList=true) (hd:ops.toList.all (zbX N)=true) (hQ:∀ a' w',Rel base w0 S0 T N σ' a' w'→Q .normal a' w'):∀ (fuel:Nat) (rem:List Nat) (listed:Array Bool) (σ:St) (a:Act) (w:World) (ls:List Log),
  rem.length≤fuel→Left ops rem listed ls→Rel base w0 S0 T N σ a w→zaz P sig call ops.toList (zcs ops rem) σ=some (σ',ls)→wpAny P .any ops Q fuel listed a w:=by
 simp only [zaF,Bool.and_eq_true] at hst
 obtain ⟨hback,hapart⟩:=hst
 have getO:∀ i,i < ops.size→ops[i]? = some (ops.getD i default):=fun i hi=>by simp [hi]
 have empty:∀ {rem:List Nat} {listed:Array Bool} {ls:List Log},Left ops rem listed ls→Region.ready .any ops listed=[]→rem=[]:=by
  intro rem listed ls hL hr
  cases rem with
  | nil=>rfl
  | cons i r =>
   exfalso
   have hi:=(hL.mem i).1 List.mem_cons_self
   have:i∈Region.ready .any ops listed:=by
    rw [zfN]
    refine ⟨hi.1,hi.2,?_⟩
    rw [getO i hi.1]
    simp only [Option.map_some,Option.getD_some,Array.all_eq_true']
    intro e he
    cases hb:Region.binds .any e with
    | false=>rfl
    | true =>
     have hlt:=zfs hback i (ops.getD i default) (by simpa using getO i hi.1) e (by simpa using he) (by rw [zix];exact hb)
     rw [Nat.zero_add] at hlt
     have hnot:e.on ∉ i::r:=fun hm=>by
      rcases List.mem_cons.1 hm with h | h
      ·omega
      ·have:=List.rel_of_pairwise_cons hL.ord h;omega
     rw [hL.mem] at hnot
     have hsz:e.on < listed.size:=by rw [hL.size];omega
     have:listed.getD e.on true≠false:=fun h=>hnot ⟨by omega,h⟩
     simp only [Array.getD_eq_getD_getElem?, Array.getElem?_eq_getElem hsz,Option.getD_some] at this ⊢
     simpa using this
   rw [hr] at this
   cases this
 intro fuel
 induction fuel with
 | zero =>
  intro rem listed σ a w ls hf hL hR h
  obtain rfl:rem=[]:=List.eq_nil_of_length_eq_zero (by omega)
  cases h
  refine ⟨?_,hQ a w hR⟩
  cases hr:Region.ready .any ops listed with
  | nil=>rfl
  | cons i r =>
   have:i∈Region.ready .any ops listed:=by rw [hr];exact List.mem_cons_self
   rw [zfN] at this
   have:=(hL.mem i).2 ⟨this.1,this.2.1⟩
   cases this
 | succ fuel ih =>
  intro rem listed σ a w ls hf hL hR h
  refine ⟨fun hr=>?_,fun i hi=>?_⟩
  ·obtain rfl:=empty hL hr
   cases h
   exact hQ a w hR
  ·rw [zfN] at hi
   obtain ⟨hi1,hi2,hi3⟩:=hi
   have hmem:=(hL.mem i).2 ⟨hi1,hi2⟩
   rw [getO i hi1] at hi3
   simp only [Option.map_some,Option.getD_some,Array.all_eq_true'] at hi3
   have hedge:∀ e∈(ops.getD i default).after.toList,zb2 e=true→listed.getD e.on false=true:=fun e he hb=>by
    have:=hi3 e (by simpa using he)
    rw [← zix,hb] at this
    simpa using this
   obtain ⟨pre,post,rfl⟩:=List.append_of_mem hmem
   have hlen:=zhS h
   simp only [zcs,List.length_map,List.length_append,List.length_cons] at hlen
   obtain ⟨lp,l,lq,rfl,hlp⟩:∃ lp l lq,ls=lp++l::lq∧lp.length=pre.length:=by
    have h1:pre.length < ls.length:=by omega
    refine ⟨ls.take pre.length,ls[pre.length],ls.drop (pre.length+1),?_,by simp;omega⟩
    rw [List.getElem_cons_drop,List.take_append_drop]
   have unl:∀ j,j∈pre++i::post→listed.getD j false=true→False:=fun j hj hl=>by
    have h1:=(hL.mem j).1 hj
    have hsz:j < listed.size:=by rw [hL.size];exact h1.1
    have h2:=h1.2
    simp only [Array.getD_eq_getD_getElem?, Array.getElem?_eq_getElem hsz,Option.getD_some] at h2 hl
    rw [h2] at hl
    cases hl
   have nb:∀ j,j∈pre++i::post→zbQ ops.toList 4 i j=true→False:=fun j hj hb =>
    unl j hj (ze5 (L:=fun k=>listed.getD k false=true) hL.closed 4 i j (fun o ho=>by
     have:ops.toList[i]? = some (ops.getD i default):=by simpa using getO i hi1
     rw [this] at ho
     cases ho
     exact hedge) hb)
   have hord:∀ j∈pre,j < i:=fun j hj=>(List.pairwise_append.1 hL.ord).2.2 j hj i List.mem_cons_self
   obtain ⟨σ1,hstep,hrest⟩:=zlB (pre:=zcs ops pre) (post:=zcs ops post) (o:=ops.getD i default) (lp:=lp) (l:=l) (lq:=lq) (by simp [zcs,hlp]) (fun k x lx hx hlx=>by
    simp only [zcs,List.getElem?_map,Option.map_eq_some_iff] at hx
    obtain ⟨j,hj,rfl⟩:=hx
    have hjm:j∈pre:=List.mem_of_getElem? hj
    have hkl:k < pre.length:=(List.getElem?_eq_some_iff.1 hj).1
    have hjs:j < ops.size:=((hL.mem j).1 (List.mem_append_left _ hjm)).1
    refine ⟨?_,?_⟩
    ·have:=zgw hapart j i (ops.getD j default) (ops.getD i default) (hord j hjm) (by simpa using getO j hjs) (by simpa using getO i hi1)
     rw [Nat.zero_add,Nat.zero_add] at this
     exact this.resolve_left fun hb=>nb j (List.mem_append_left _ hjm) hb
    ·have:=hL.logs k pre.length j i lx l hkl (by rw [List.getElem?_append_left hkl];exact hj) (by rw [List.getElem?_append_right (Nat.le_refl _)];simp) (by rw [List.getElem?_append_left (by omega)];exact hlx) (by rw [List.getElem?_append_right (by omega),hlp];simp)
     exact this.resolve_right fun hb=>nb j (List.mem_append_left _ hjm) hb) (by simpa [zcs] using h)
   have hni:∀ j∈pre++post,j≠i:=fun j hj=>by
    have hp:=List.pairwise_append.1 hL.ord
    rcases List.mem_append.1 hj with h | h
    ·have:=hord j h;omega
    ·have:=List.rel_of_pairwise_cons hp.2.1 h;omega
   have getset:∀ (j:Nat) (d:Bool),j≠i→(listed.setIfInBounds i true).getD j d=listed.getD j d:=fun j d hj=>by
    simp only [Array.getD_eq_getD_getElem?, Array.getElem?_setIfInBounds_ne (Ne.symm hj)]
   have getself:∀ d:Bool,(listed.setIfInBounds i true).getD i d=true:=fun d=>by
    simp only [Array.getD_eq_getD_getElem?, Array.getElem?_setIfInBounds_self_of_lt (by rw [hL.size];exact hi1:i < listed.size),Option.getD_some]
   have hL':Left ops (pre++post) (listed.setIfInBounds i true) (lp++lq):=by
    refine ⟨by simpa using hL.size,fun j=>?_,?_,fun k o hk ho e he hb=>?_,fun k k' j j' x x' hlt hj hj' hx hx'=>?_⟩
    ·constructor
     ·intro hj
      have h1:=(hL.mem j).1 (by rcases List.mem_append.1 hj with h | h;exact List.mem_append_left _ h;exact List.mem_append_right _ (List.mem_cons_of_mem _ h))
      exact ⟨h1.1,by rw [getset j true (hni j hj)];exact h1.2⟩
     ·intro hj
      by_cases hji:j=i
      ·subst hji;rw [getself] at hj;cases hj.2
      ·rw [getset j true hji] at hj
       have:=(hL.mem j).2 hj
       rcases List.mem_append.1 this with h | h
       ·exact List.mem_append_left _ h
       ·rcases List.mem_cons.1 h with h | h
        ·exact absurd h hji
        ·exact List.mem_append_right _ h
    ·exact hL.ord.sublist (List.Sublist.append_left (List.sublist_cons_self _ _) _)
    ·by_cases hee:e.on=i
     ·rw [hee];exact getself false
     ·rw [getset _ _ hee]
      by_cases hki:k=i
      ·subst hki
       have:ops.toList[k]? = some (ops.getD k default):=by simpa using getO k hi1
       rw [this] at ho
       cases ho
       exact hedge e he hb
      ·rw [getset _ _ hki] at hk
       exact hL.closed k o hk ho e he hb
    ·have sh:∀ {α:Type} (p q:List α) (c:α) (k:Nat) (y:α),p.length=pre.length→(p++q)[k]? = some y→(p++c::q)[if k < pre.length then k else k+1]? = some y:=by
      intro α p q c k y hp hy
      by_cases hk:k < pre.length
      ·rw [if_pos hk,List.getElem?_append_left (by omega)]
       rw [List.getElem?_append_left (by omega)] at hy
       exact hy
      ·rw [if_neg hk,List.getElem?_append_right (by omega),show k+1 - p.length=(k - p.length)+1 by omega,List.getElem?_cons_succ]
       rw [List.getElem?_append_right (by omega)] at hy
       exact hy
     exact hL.logs _ _ j j' x x' (by split<;>split<;>omega) (sh pre post i k j rfl hj) (sh pre post i k' j' rfl hj') (sh lp lq l k x hlp hx) (sh lp lq l k' x' hlp hx')
   have hso:ops.toList.all (zbX N)=true:=hd
   have hdo:zbX N (ops.getD i default)=true:=List.all_eq_true.1 hd _ (List.mem_of_getElem? (by simpa using getO i hi1:ops.toList[i]? = some _))
   unfold wpOp
   rw [getO i hi1]
   exact zgp hC hdo hR hstep _ fun a' w' hR'=>ih (pre++post) _ σ1 a' w' (lp++lq) (by simp only [List.length_append,List.length_cons] at hf ⊢;omega) hL' hR' (by simpa [zcs] using hrest)
end
end Ovi
namespace Ovi
open Go Go.RowKit
theorem zcR {P:Program} {G:Gd} (hm:P.follows .mixedOrders=true):zcc P G zaF:=by
 intro call sig base N w0 S0 T σ σ' a w id ops ls Q hC hst hd hR hrun hdr hQ
 refine wp_region_any hm ?_
 obtain ⟨h1,h2,S,m,hI,hT⟩:=hR
 obtain ⟨q1,q2⟩:=hI.world (w':={ w with drawn:=w.drawn+1 }) ⟨rfl,rfl,rfl,Nat.le_refl _,fun _ _=>rfl⟩
 have hall:zcs ops (List.range ops.size)=ops.toList:=by
  apply List.ext_getElem?
  intro k
  by_cases hk:k < ops.size
  ·simp [zcs,hk]
  ·simp [zcs,hk]
 refine zmR hC hst hd hQ ops.size (List.range ops.size) _ σ a _ ls (by simp) ⟨by simp,fun i=>?_,List.pairwise_lt_range,fun k o hk=>?_,fun k k' i i' l l' hlt hi hi' hl hl'=>?_⟩ ⟨h1,h2,S,m,q1,hT.mono q2⟩ (by rw [hall];exact hrun)
 ·simp only [List.mem_range,Array.getD_eq_getD_getElem?]
  constructor
  ·intro h;simp [h]
  ·intro h;exact h.1
 ·simp only [Array.getD_eq_getD_getElem?, Array.getElem?_replicate] at hk
  split at hk<;>cases hk
 ·have e1:i=k:=by simp only [List.getElem?_eq_some_iff] at hi;obtain ⟨_,h⟩:=hi;simpa using h.symm
  have e2:i'=k':=by simp only [List.getElem?_eq_some_iff] at hi';obtain ⟨_,h⟩:=hi';simpa using h.symm
  subst e1 e2
  have:=zgF (i:=0) hdr i i' l l' hlt hl hl'
  rwa [Nat.zero_add,Nat.zero_add] at this
end Ovi
namespace Ovi
open Go Go.RowKit
inductive Ty where
 | int (k:IntKind) | bool | str | list (ts:List Ty)
mutual
def Fit:Ty→D→Prop
 | .int k,.int k' n=>k'=k∧(Lit.int k n).wf=true
 | .bool,.bool _=>True
 | .str,.str s=>s.length≤maxLen
 | .list ts,.list sz xs=>sz=ts.length∧xs.length≤maxLen∧∀ x∈xs,Fits ts x
 | _,_=>False
def Fits:List Ty→List D→Prop
 | [],[]=>True
 | t::ts,d::ds=>Fit t d∧Fits ts ds
 | _,_=>False
end
theorem Fits.len:∀ {ts:List Ty} {ds:List D},Fits ts ds→ds.length=ts.length
 | [],[],_=>rfl
 | [],_::_,h=>by simp [Fits] at h
 | _::_,[],h=>by simp [Fits] at h
 | t::ts,d::ds,h=>by simp only [Fits] at h;simp [Fits.len h.2]
theorem Fits.append:∀ {ts us:List Ty} {ds es:List D},Fits ts ds→Fits us es→Fits (ts++us) (ds++es)
 | [],us,[],es,_,h=>h
 | [],_,_::_,_,h,_=>by simp [Fits] at h
 | _::_,_,[],_,h,_=>by simp [Fits] at h
 | t::ts,us,d::ds,es,h,k=>by simp only [Fits] at h;simp only [List.cons_append,Fits];exact ⟨h.1,h.2.append k⟩
theorem Fit.noFn {t:Ty} {d:D} (h:Fit t d):d.isFn=false:=by cases t<;>cases d<;>first | rfl | (simp [Fit] at h;done)
theorem Fits.noFn:∀ {ts:List Ty} {ds:List D},Fits ts ds→∀ x∈ds,x.isFn=false
 | [],[],_,x,hx=>by simp at hx
 | [],_::_,h,_,_=>by simp [Fits] at h
 | _::_,[],h,_,_=>by simp [Fits] at h
 | t::ts,d::ds,h,x,hx=>by
  simp only [Fits] at h
  rcases List.mem_cons.1 hx with rfl | hx
  ·exact h.1.noFn
  ·exact h.2.noFn x hx
def tyFs (tyOf:TypeId→Option (List Ty)) (P:Program):Nat→List Field→Option (List Ty)
 | _,[]=>some []
 | off,f::fs=>cond (Nat.beq f.offset off) (match tyOf f.type,tyFs tyOf P (off+P.cellsOf f.type) fs with
  | some a,some b=>cond (Nat.beq a.length (P.cellsOf f.type)) (some (a++b)) none
  | _,_=>none) none
def tyOf (P:Program):Nat→TypeId→Option (List Ty)
 | 0,_=>none
 | n+1,t=>match P.underlying t with
  | some (.int k)=>some [.int k]
  | some .bool=>some [.bool]
  | some .string=>some [.str]
  | some (.slice e)=>match tyOf P n e with
   | some ts=>cond (Nat.beq ts.length (P.cellsOf e)) (some [.list ts]) none
   | none=>none
  | some (.struct fs)=>match tyFs (tyOf P n) P 0 fs.toList with
   | some ts=>cond (Nat.beq ts.length (P.cellsOf t)) (some ts) none
   | none=>none
  | _=>none
section
variable {H:Type} {enc:TypeId × Value→H} {P:Program} {w:World}
def Here (w:World):Nat→Prop:=fun k=>k < w.heap.size
def InC (w:World) (ts:List Ty) (cs:List Value):Prop:=∃ ds:List D,Fits ts ds∧ds.length=cs.length∧∀ (j:Nat) v,cs[j]? = some v→∃ x,ds[j]? = some x∧RD w (Here w) (Here w) v x
theorem InC.one {t:Ty} {v:Value} {x:D} (h:Fit t x) (hr:RD w (Here w) (Here w) v x):InC w [t] [v] :=
 ⟨[x],by simp [Fits,h],rfl,fun j u hu=>by cases j<;>simp at hu;subst hu;exact ⟨x,rfl,hr⟩⟩
theorem InC.append {ts us:List Ty} {cs es:List Value} (h:InC w ts cs) (k:InC w us es):InC w (ts++us) (cs++es):=by
 obtain ⟨ds,h1,h2,h3⟩:=h
 obtain ⟨fs,k1,k2,k3⟩:=k
 refine ⟨ds++fs,h1.append k1,by simp [h2,k2],fun j v hv=>?_⟩
 rcases Nat.lt_or_ge j cs.length with hj | hj
 ·rw [List.getElem?_append_left hj] at hv
  rw [List.getElem?_append_left (by omega)]
  exact h3 j v hv
 ·rw [List.getElem?_append_right hj] at hv
  rw [List.getElem?_append_right (by omega),h2]
  exact k3 _ v hv
theorem InC.len {ts:List Ty} {cs:List Value} (h:InC w ts cs):cs.length=ts.length:=by
 obtain ⟨ds,h1,h2,h3⟩:=h;rw [← h2,h1.len]
theorem cells?_ok {b:Nat} {a:Addr} {n:Nat} {cs:List Value} (h:w.cells? b a n=some cs):cs.length=n∧∀ c,c < n→∃ u,cs[c]? = some u∧w.cell? (a.add c)=some u:=by
 unfold World.cells? at h
 split at h
 ·have hl:=mapM_some_length h
  rw [List.length_range] at hl
  refine ⟨hl,fun c hc=>?_⟩
  have:=mapM_some_get h c c (by simp [hc])
  rw [this]
  exact ⟨cs[c],by rw [List.getElem?_eq_getElem (by omega)],by rw [List.getElem?_eq_getElem (by omega)]⟩
 ·cases h
theorem cell?_here {a:Addr} {u:Value} (h:w.cell? a=some u):Here w a.block:=by
 unfold World.cell? at h
 split at h
 ·rename_i hb
  exact (Array.getElem?_eq_some_iff.1 hb).1
 ·cases h
theorem znC {a:Addr} {len cap sz:Nat} {ts:List Ty} (hsz:ts.length=sz) (hlc:len≤cap) (hm:cap≤maxLen)
  (h:∀ i,i < len→∃ cs,w.cells? 0 (a.add (i * sz)) sz=some cs∧InC w ts cs):InC w [.list ts] [.slice (some a) len cap]:=by
 have hex:∀ i,∃ ds:List D,i < len→Fits ts ds∧∀ c x,ds[c]? = some x→∃ u,w.cell? (a.add (i * sz+c))=some u∧RD w (Here w) (Here w) u x:=by
  intro i
  by_cases hi:i < len
  ·obtain ⟨cs,h1,ds,h2,h3,h4⟩:=h i hi
   refine ⟨ds,fun _=>⟨h2,fun c x hx=>?_⟩⟩
   obtain ⟨k1,k2⟩:=cells?_ok h1
   have hc:c < sz:=by have:=(List.getElem?_eq_some_iff.1 hx).1;omega
   obtain ⟨u,hu,hw⟩:=k2 c hc
   obtain ⟨y,hy,hr⟩:=h4 c u hu
   rw [hx] at hy
   cases hy
   rw [zf5] at hw
   exact ⟨u,hw,hr⟩
  ·exact ⟨[],fun h=>absurd h hi⟩
 obtain ⟨row,hrow⟩:=Classical.axiomOfChoice hex
 have hxs:∀ (i:Nat) (x:List D),((List.range len).map row)[i]? = some x→i < len∧row i=x:=by
  intro i x hx
  obtain ⟨h1,h2⟩:=List.getElem?_eq_some_iff.1 hx
  simp only [List.length_map,List.length_range] at h1
  simp only [List.getElem_map,List.getElem_range] at h2
  exact ⟨h1,h2⟩
 have hcell:∀ i c x,zk ((List.range len).map row) i c=some x→∃ u,w.cell? (a.add (i * sz+c))=some u∧RD w (Here w) (Here w) u x∧x.isFn=false:=by
  intro i c x hx
  obtain ⟨r,hr,hc⟩:=zav hx
  obtain ⟨hi,rfl⟩:=hxs i r hr
  obtain ⟨u,h1,h2⟩:=(hrow i hi).2 c x hc
  exact ⟨u,h1,h2,(hrow i hi).1.noFn x (List.mem_of_getElem? hc)⟩
 have hg:∀ p:Nat × Nat,∃ u:Value,∀ x,zk ((List.range len).map row) p.1 p.2=some x→w.cell? (a.add (p.1 * sz+p.2))=some u∧RD w (Here w) (Here w) u x∧x.isFn=false:=by
  rintro ⟨i,c⟩
  cases hx:zk ((List.range len).map row) i c with
  | none=>exact ⟨undef,fun x hx=>by cases hx⟩
  | some x =>
   obtain ⟨u,h1⟩:=hcell i c x hx
   exact ⟨u,fun y hy=>by cases hy;exact h1⟩
 obtain ⟨g,hg⟩:=Classical.axiomOfChoice hg
 refine InC.one (x:=.list sz ((List.range len).map row)) ?_ ?_
 ·simp only [Fit,List.length_map,List.length_range]
  refine ⟨hsz.symm,by omega,fun x hx=>?_⟩
  obtain ⟨i,hi,rfl⟩:=List.mem_map.1 hx
  exact (hrow i (by simpa using hi)).1
 ·have:=RD.list (w:=w) (S:=Here w) (T:=Here w) (some a) cap sz ((List.range len).map row) (fun i c=>g (i,c)) (by simpa using hlc) (fun i x hx=>by
   obtain ⟨hi,rfl⟩:=hxs i x hx;rw [(hrow i hi).1.len,hsz]) (fun i c x hx=>⟨a,rfl,by
    have:=cell?_here (hg (i,c) x hx).1
    rwa [zbA] at this,(hg (i,c) x hx).1⟩) (fun i c x hx=>(hg (i,c) x hx).2.1) (fun i c x hx=>(hg (i,c) x hx).2.2)
  simpa using this
theorem znO:∀ (fuel:Nat) (n:Nat) (t:TypeId) (cs:List Value) (d:DataW H) (ps:List MemPlace) (ts:List Ty),
  DataW.trod enc P w 0 (fun _=>true) true fuel t cs=some (d,ps)→tyOf P n t=some ts→InC w ts cs:=by
 intro fuel
 induction fuel with
 | zero=>intro n t cs d ps ts h;simp [DataW.trod] at h
 | succ fuel ih =>
  intro n t cs d ps ts h ht
  cases n with
  | zero=>simp [tyOf] at ht
  | succ n =>
   unfold tyOf at ht
   split at ht<;>rename_i hu
   ·rename_i k
    cases ht
    unfold DataW.trod at h
    rw [hu] at h
    split at h<;>rename_i e1<;>try (first | (cases e1;done) | (cases h;done))
    rename_i k1 k' m
    split at h
    ·rename_i hc
     cases e1
     obtain ⟨rfl,hc⟩:=hc
     exact InC.one (x:=.int _ m) ⟨rfl,hc⟩ (.int _ _)
    ·cases h
   ·cases ht
    unfold DataW.trod at h
    rw [hu] at h
    split at h<;>rename_i e1<;>try (first | (cases e1;done) | (cases h;done))
    exact InC.one (x:=.bool _) trivial (.bool _)
   ·cases ht
    unfold DataW.trod at h
    rw [hu] at h
    split at h<;>rename_i e1<;>try (first | (cases e1;done) | (cases h;done))
    rename_i s
    split at h
    ·rename_i hc
     exact InC.one (x:=.str s.data.toList) (by simp only [Fit];simpa using hc) (.str _)
    ·cases h
   ·rename_i e
    split at ht
    ·rename_i us hus
     obtain ⟨hl,ht⟩:us.length=P.cellsOf e∧ts=[.list us]:=by
      cases hb:Nat.beq us.length (P.cellsOf e) with
      | true=>rw [hb] at ht;cases ht;exact ⟨Nat.eq_of_beq_eq_true hb,rfl⟩
      | false=>rw [hb] at ht;cases ht
     subst ht
     unfold DataW.trod at h
     rw [hu] at h
     split at h<;>rename_i e1<;>try (first | (cases e1;done) | (cases h;done))
     ·cases e1
      exact InC.one (x:=.list us.length []) (by simp [Fit]) (RD.nil none _)
     ·cases e1
      rename_i a len cap
      simp only [] at h
      split at h
      ·rename_i hc
       obtain ⟨zeE,he,_⟩:=Option.bind_eq_some_iff.1 h
       refine znC hl hc.2.1 hc.2.2 fun i hi=>?_
       have hlen:=mapM_some_length he
       rw [List.length_range] at hlen
       have:=mapM_some_get he i i (by simp [hi])
       rw [List.getElem?_eq_getElem (by omega)] at this
       obtain ⟨ci,h1,h2⟩:=Option.bind_eq_some_iff.1 this
       obtain ⟨⟨dd,pp⟩,hel⟩:∃ q,zeE[i]'(by omega)=q:=⟨_,rfl⟩
       rw [hel] at h2
       exact ⟨ci,h1,ih n e ci dd pp us h2 hus⟩
      ·cases h
    ·cases ht
   ·rename_i fs
    split at ht
    rotate_left
    ·cases ht
    rename_i us hus
    obtain ⟨hl,rfl⟩:us.length=P.cellsOf t∧ts=us:=by
     cases hb:Nat.beq us.length (P.cellsOf t) with
     | true=>rw [hb] at ht;cases ht;exact ⟨Nat.eq_of_beq_eq_true hb,rfl⟩
     | false=>rw [hb] at ht;cases ht
    unfold DataW.trod at h
    rw [hu] at h
    split at h<;>rename_i e1<;>try (first | (cases e1;done) | (cases h;done))
    rename_i cs _ cs2 fs1
    cases e1
    split at h
    ·rename_i hlen
     obtain ⟨xs,hx,_⟩:=Option.map_eq_some_iff.1 h
     have key:∀ (fl:List Field) (off:Nat) (us:List Ty) (xs:List (DataW H × List MemPlace)),tyFs (tyOf P n) P off fl=some us →
       (fl.mapM fun f=>DataW.trod enc P w 0 (fun _=>true) true fuel f.type ((cs.drop f.offset).take (P.cellsOf f.type)))=some xs→∃ k,InC w us ((cs.drop off).take k)∧k=us.length:=by
      intro fl
      induction fl with
      | nil =>
       intro off us xs h1 h2
       cases h1
       exact ⟨0,⟨[],by simp [Fits],by simp,fun j v hv=>by simp at hv⟩,rfl⟩
      | cons f fl ihf =>
       intro off us xs h1 h2
       simp only [tyFs] at h1
       cases hb:Nat.beq f.offset off with
       | false=>rw [hb] at h1;cases h1
       | true =>
        have hoff:=Nat.eq_of_beq_eq_true hb
        rw [hb] at h1
        simp only [cond_true] at h1
        split at h1
        ·rename_i a b ha hbb
         cases hc:Nat.beq a.length (P.cellsOf f.type) with
         | false=>rw [hc] at h1;cases h1
         | true =>
          have hal:=Nat.eq_of_beq_eq_true hc
          rw [hc] at h1
          cases h1
          have hl2:=mapM_some_length h2
          have g0:=mapM_some_get h2 0 f rfl
          rw [List.mapM_cons] at h2
          obtain ⟨y,hy,h2⟩:=Option.bind_eq_some_iff.1 h2
          obtain ⟨ys,hys,h2⟩:=Option.bind_eq_some_iff.1 h2
          obtain ⟨k,q1,q2⟩:=ihf _ _ ys hbb hys
          obtain ⟨yd,yp⟩:=y
          have q0:=ih n f.type _ yd yp a hy ha
          refine ⟨P.cellsOf f.type+k,?_,by simp [hal,q2]⟩
          rw [List.take_add,List.drop_drop]
          rw [hoff] at q0
          exact q0.append q1
        ·cases h1
     obtain ⟨k,q1,q2⟩:=key fs.toList 0 ts xs hus hx
     rw [List.drop_zero,List.take_of_length_le (by omega)] at q1
     exact q1
    ·cases h
    ·exfalso
     clear ih h hus ht hl
     simp_all
   ·cases ht
end
end Ovi
namespace Ovi
open Go Go.ChangeShapes Go.WideShapes Go.ChangeAt Go.RowKit
section
variable {H:Type} {enc:TypeId × Value→H} {P:Program} {w:World}
def zcO:Bool × List Ty→AV→Prop
 | (true,us),.agg l=>∃ ds,l=asD ds∧Fits us ds
 | (false,[u]),.d x=>Fit u x
 | _,_=>False
def zdd:List (Bool × List Ty)→List AV→Prop
 | [],[]=>True
 | t::ts,a::asv=>zcO t a∧zdd ts asv
 | _,_=>False
def zlj (P:Program) (t:TypeId):Option (Bool × List Ty):=match tyOf P 8 t with | some us=>some (zbC P t,us) | none=>none
def zfJ (P:Program):List TypeId→Option (List (Bool × List Ty))
 | []=>some []
 | t::ts=>match zlj P t,zfJ P ts with | some a,some l=>some (a::l) | _,_=>none
theorem znX {t:TypeId} {v:Value} {d:DataW H} {p:List MemPlace} {y:Bool × List Ty} (h:DataW.Trod enc P w 0 (fun _=>true) true t v d p) {base:Nat} (ho:Value.okWide P w .any base t v) (ht:zlj P t=some y) :
  ∃ a,zcO y a∧AC w (Here w) (Here w) (fun _=>none) (fun _=>none) v a:=by
 unfold zlj at ht
 split at ht
 ·rename_i us hus
  cases ht
  obtain ⟨fuel,hf⟩:=h
  have hin:=znO fuel 8 t _ d p us hf hus
  obtain ⟨ds,h1,h2,h3⟩:=hin
  have one:∀ (u:Ty),us=[u]→zbC P t=false→v.cells=#[v]→∃ a,zcO (zbC P t,us) a∧AC w (Here w) (Here w) (fun _=>none) (fun _=>none) v a:=by
   intro u hu hag hv
   subst hu
   rw [hv] at h2 h3
   obtain ⟨x,hx,hr⟩:=h3 0 v rfl
   match ds,h2,h1,hx with
   | [x'],_,h1,hx =>
    cases hx
    rw [hag]
    simp only [Fits] at h1
    exact ⟨.d x,h1.1,hr⟩
  rw [tyOf] at hus
  split at hus<;>rename_i hu
  ·cases hus
   obtain ⟨n,rfl⟩:=okWide_int hu ho
   exact one _ rfl (by simp [zbC,hu]) rfl
  ·cases hus
   obtain ⟨n,rfl⟩:=okWide_bool hu ho
   exact one _ rfl (by simp [zbC,hu]) rfl
  ·cases hus
   obtain ⟨n,rfl⟩:=okWide_string hu ho
   exact one _ rfl (by simp [zbC,hu]) rfl
  ·split at hus
   ·rename_i ts _
    cases hb:Nat.beq ts.length (P.cellsOf ‹_›) with
    | false=>rw [hb] at hus;cases hus
    | true =>
     rw [hb] at hus
     cases hus
     obtain ⟨a,len,cap,rfl⟩:=okWide_slice hu ho
     exact one _ rfl (by simp [zbC,hu]) rfl
   ·cases hus
  ·have hag:zbC P t=true:=by simp [zbC,hu]
   simp only [Value.okWide,hu] at ho
   obtain ⟨cs,rfl,hsz,_⟩:=ho
   simp only [Value.cells] at h2 h3
   rw [hag]
   refine ⟨.agg (asD ds),⟨ds,rfl,h1⟩,cs,rfl,by simp [asD,h2],fun j a ha=>?_⟩
   simp only [asD,List.getElem?_map] at ha
   obtain ⟨x,hx,rfl⟩:=Option.map_eq_some_iff.1 ha
   have hj:j < cs.size:=by have:=(List.getElem?_eq_some_iff.1 hx).1;simpa [h2] using this
   obtain ⟨x',hx',hr⟩:=h3 j cs[j] (by simp [hj])
   rw [hx] at hx'
   cases hx'
   exact ⟨cs[j],by simp [hj],hr⟩
  ·cases hus
 ·cases ht
theorem zic:∀ {ts:List TypeId} {vs:List Value} {ds:List (DataW H)} {p:List MemPlace} {ys:List (Bool × List Ty)},DataW.TrodAll enc P w 0 (fun _=>true) true ts vs ds p→∀ {base:Nat},
  (∀ (j:Nat) t v,ts[j]? = some t→vs[j]? = some v→Value.okWide P w .any base t v)→zfJ P ts=some ys →
  ∃ asv,zdd ys asv∧vs.length=asv.length∧∀ (j:Nat) a,asv[j]? = some a→∃ u,vs[j]? = some u∧AC w (Here w) (Here w) (fun _=>none) (fun _=>none) u a
 | [],vs,ds,p,ys,h,base,ho,ht=>by
  obtain ⟨rfl,rfl,rfl⟩:=trodAll_nil h
  cases ht
  exact ⟨[],trivial,rfl,fun j a ha=>by simp at ha⟩
 | t::ts,vs,ds,p,ys,h,base,ho,ht=>by
  obtain ⟨v,vs',d,ds',p1,q1,rfl,rfl,rfl,h1,h2⟩:=trodAll_cons h
  unfold zfJ at ht
  split at ht
  ·rename_i y l hy hl
   cases ht
   obtain ⟨a,ha,hc⟩:=znX h1 (ho 0 t v rfl rfl) hy
   obtain ⟨asv,k1,k2,k3⟩:=zic h2 (base:=base) (fun j t' v' h1 h2=>ho (j+1) t' v' h1 h2) hl
   refine ⟨a::asv,⟨ha,k1⟩,by simp [k2],fun j b hb=>?_⟩
   cases j with
   | zero=>cases hb;exact ⟨v,rfl,hc⟩
   | succ j=>exact k3 j b hb
  ·cases ht
def zdF (P:Program) (ts:List TypeId):Bool:=ts.all fun t=>P.readableRec t&&Nat.blt t P.types.size
theorem zg5 (hl:laidOutB P=true) {W W':World} (hb:Below W.heap.size W W'):∀ {ts:List TypeId} {vs:List Value} {ds:List (DataW H)} {p:List MemPlace},zdF P ts=true →
  DataW.TrodAll enc P W 0 (fun _=>true) true ts vs ds p→DataW.TrodAll enc P W' 0 (fun b=>decide (b < W.heap.size)) true ts vs ds p
 | [],vs,ds,p,hr,h=>by
  obtain ⟨rfl,rfl,rfl⟩:=trodAll_nil h
  exact trodAll_mk0
 | t::ts,vs,ds,p,hr,h=>by
  obtain ⟨v,vs',d,ds',p1,q1,rfl,rfl,rfl,h1,h2⟩:=trodAll_cons h
  simp only [zdF,List.all_cons,Bool.and_eq_true] at hr
  refine trodAll_cons_mk (Below.trod hl hr.1.1 (Nat.le_of_ble_eq_true hr.1.2) h1 hb ?_) (zg5 hl hb (by simpa [zdF] using hr.2) h2)
  obtain ⟨m,hm⟩:=h1
  exact DataW.trod_lt m _ _ _ hm
def yes:Res:=[(false,[.d (.bool true)])]
end
end Ovi
namespace Ovi
open Go
section
variable {R:Type}
theorem ite'_t {b:Bool} {x y:Option R} (h:b=true):ite' b x y=x:=by rw [h];rfl
theorem ite'_f {b:Bool} {x y:Option R} (h:b=false):ite' b x y=y:=by rw [h];rfl
theorem ite'_nt {x y:Option R}:ite' (!true) x y=y:=rfl
theorem ite'_nf {x y:Option R}:ite' (!false) x y=x:=rfl
theorem zd (a:Int) (k:Int→Option R):zg (some a) k=k a:=rfl
theorem zu (a:Bool) (k:Bool→Option R):zj (some a) k=k a:=rfl
theorem zG (a:List UInt8) (k:List UInt8→Option R):zbl (some a) k=k a:=rfl
theorem zh (a:Rows) (k:Rows→Option R):zc (some a) k=k a:=rfl
theorem zl (a:Res) (k:Res→Option R):zb (some a) k=k a:=rfl
theorem zx (k:IntKind) (n:Int):resI k 1 false 1 [(false,[.d (.int k n)])] 0 0=some n:=by simp [resI,zaf,D.asI]
theorem zK (b:Bool):resB 1 false 1 [(false,[.d (.bool b)])] 0 0=some b:=rfl
theorem zS (b:List UInt8):resS 1 false 1 [(false,[.d (.str b)])] 0 0=some b:=rfl
theorem zy (e sz:Nat) (l:Rows):resO e sz 1 false 1 [(false,[.row e sz l])] 0 0=some l:=by simp [resO,zaf]
theorem zl7 (e sz:Nat) (l:Rows):resL sz 1 false 1 [(false,[.row e sz l])] 0 0=some l:=by simp [resL,zaf]
theorem zcu (sz:Nat) (l:Rows):resL sz 1 false 1 [(false,[.d (.list sz l)])] 0 0=some l:=by simp [resL,zaf,D.asL]
end
theorem zac {n:Int} (h1 : -9223372036854775808≤n) (h2:n < 9223372036854775808):IntKind.i64.wrap n=n:=by rw [IntKind.wrap_i64];omega
theorem zaj {n:Int} {m:Nat} (h1:0≤n) (h2:n < m) (h3:m≤maxLen):IntKind.i64.wrap (n+1)=n+1:=by
 unfold maxLen at h3
 exact zac (by omega) (by omega)
mutual
def szD:D→Nat
 | .str s=>s.length
 | .list _ xs=>xs.length+szR xs
 | _=>0
def szR:List (List D)→Nat
 | []=>0
 | r::rs=>szC r+szR rs
def szC:List D→Nat
 | []=>0
 | d::ds=>szD d+szC ds
end
def szT (left:Int) (s:Nat):Int:=if (s:Int)≤left then left - s else -1
theorem z7 (left:Int) (s:Nat):((s:Int)≤left∧szT left s=left - s)∨(left < (s:Int)∧szT left s = -1):=by
 unfold szT;split
 ·exact .inl ⟨‹_›,rfl⟩
 ·exact .inr ⟨by omega,rfl⟩
theorem zaK {left:Int} {s:Nat} (h:(s:Int)≤left):szT left s=left - s:=if_pos h
theorem zaq {left:Int} {s:Nat} (h:left < (s:Int)):szT left s = -1:=if_neg (by omega)
theorem Fits.cons {t:Ty} {ts:List Ty} {r:List D} (h:Fits (t::ts) r):∃ x r',r=x::r'∧Fit t x∧Fits ts r':=by
 cases r with
 | nil=>simp [Fits] at h
 | cons x r'=>simp only [Fits] at h;exact ⟨x,r',rfl,h.1,h.2⟩
theorem Fits.nil {r:List D} (h:Fits [] r):r=[]:=by cases r with | nil=>rfl | cons x r'=>simp [Fits] at h
theorem Fit.int {k:IntKind} {d:D} (h:Fit (.int k) d):∃ n,d=.int k n∧(Lit.int k n).wf=true:=by
 cases d<;>simp [Fit] at h
 obtain ⟨rfl,h⟩:=h
 exact ⟨_,rfl,h⟩
theorem Fit.bool {d:D} (h:Fit .bool d):∃ b,d=.bool b:=by
 cases d<;>simp [Fit] at h
 exact ⟨_,rfl⟩
theorem Fit.str {d:D} (h:Fit .str d):∃ s,d=.str s∧s.length≤maxLen:=by
 cases d<;>simp [Fit] at h
 exact ⟨_,rfl,h⟩
theorem Fit.list {ts:List Ty} {d:D} {n:Nat} (h:Fit (.list ts) d) (hn:ts.length=n):∃ xs,d=.list n xs∧Fit (.list ts) (.list n xs):=by
 subst hn
 cases d with
 | list sz xs =>
  have h':=h
  simp only [Fit] at h
  obtain ⟨rfl,_⟩:=h
  exact ⟨xs,rfl,h'⟩
 | _=>simp [Fit] at h
theorem Fit.len {ts:List Ty} {sz:Nat} {xs:Rows} (h:Fit (.list ts) (.list sz xs)):xs.length≤maxLen:=by simp only [Fit] at h;exact h.2.1
theorem Fit.row {ts:List Ty} {sz:Nat} {xs:Rows} (h:Fit (.list ts) (.list sz xs)) {i:Nat} (hi:i < xs.length):∃ row,xs[i]? = some row∧Fits ts row∧xs.drop i=row::xs.drop (i+1):=by
 simp only [Fit] at h
 exact ⟨xs[i],List.getElem?_eq_getElem hi,h.2.2 _ (List.getElem_mem hi),List.drop_eq_getElem_cons hi⟩
theorem Fit.zero (ts:List Ty):Fit (.list ts) (.list ts.length []):=by simp [Fit]
theorem zF {k:IntKind} {l:Rows} {i off:Nat} {row:List D} (h:l[i]? = some row):zm k l i off=(row[off]?).bind (D.asI k):=by simp [zm,zk,h]
theorem zau {l:Rows} {i off:Nat} {row:List D} (h:l[i]? = some row):zan l i off=(row[off]?).bind D.asB:=by simp [zan,zk,h]
theorem zaw {l:Rows} {i off:Nat} {row:List D} (h:l[i]? = some row):zbm l i off=(row[off]?).bind D.asS:=by simp [zbm,zk,h]
theorem zab {sz:Nat} {l:Rows} {i off:Nat} {row:List D} (h:l[i]? = some row):zw sz l i off=(row[off]?).bind (D.asL sz):=by simp [zw,zk,h]
theorem zz (k:IntKind) (n:Int):D.asI k (.int k n)=some n:=by simp [D.asI]
theorem zV (b:Bool):D.asB (.bool b)=some b:=rfl
theorem zX (b:List UInt8):D.asS (.str b)=some b:=rfl
theorem zN (sz:Nat) (xs:Rows):D.asL sz (.list sz xs)=some xs:=by simp [D.asL]
theorem zo {i n:Nat} (h:i < n):inR (i:Int) n=true:=by simp only [inR,decide_eq_true_eq];omega
theorem lt_t {i n:Nat} (h:i < n):decide ((i:Int) < (n:Int))=true:=by simp only [decide_eq_true_eq];omega
theorem lt_f {i n:Nat} (h:¬ i < n):decide ((i:Int) < (n:Int))=false:=by simp only [decide_eq_false_iff_not];omega
theorem zhE {n:Nat} (h:n≤1099511627776):inM (n:Int)=true:=by simp only [inM,decide_eq_true_eq];omega
theorem zY {n:Nat} (h:n≤1099511627776):fits n=true:=by simp only [fits,decide_eq_true_eq];exact h
theorem zhn (n:Int):(n==n)=true:=by simp
theorem zf6 (n:Int):(n != n)=false:=by simp
theorem zdW:decide ((-1:Int) < 0)=true:=by decide
theorem zaC {n:Int} (h:0≤n):decide (n < 0)=false:=by simp only [decide_eq_false_iff_not];omega
def Filled (a v:Rows) (i sz:Nat):Prop:=v.length=a.length∧v.take i=a.take i∧∀ r∈v,r.length=sz
theorem Filled.start (a:Rows) (z:List D):Filled a (zbi (a.length:Int) z) 0 z.length:=by
 refine ⟨by simp [zbi],by simp,fun r hr=>?_⟩
 simp only [zbi] at hr
 rw [List.eq_of_mem_replicate hr]
theorem Filled.done {a v:Rows} {sz:Nat} (h:Filled a v a.length sz):v=a:=by
 obtain ⟨h1,h2,_⟩:=h
 rwa [List.take_of_length_le (by omega),List.take_of_length_le (by omega)] at h2
theorem Filled.step {a v:Rows} {i sz:Nat} {row:List D} (h:Filled a v i sz) (hr:a[i]? = some row) (hs:row.length=sz):Filled a (zai v i 0 row) (i+1) sz:=by
 obtain ⟨h1,h2,h3⟩:=h
 obtain ⟨hi,hra⟩:=List.getElem?_eq_some_iff.1 hr
 have hiv:i < v.length:=by omega
 have e:zai v i 0 row=v.set i row:=by
  unfold zai
  congr 1
  have:(v.getD i []).length=sz:=by
   rw [List.getD_eq_getElem?_getD,List.getElem?_eq_getElem hiv]
   exact h3 _ (List.getElem_mem hiv)
  rw [List.take_zero,List.nil_append,List.drop_eq_nil_of_le (by omega),List.append_nil]
 rw [e]
 refine ⟨by simp [h1],?_,fun r hr=>?_⟩
 ·rw [List.take_succ_eq_append_getElem (by simp;exact hiv),List.take_succ_eq_append_getElem hi]
  rw [List.take_set_of_le (Nat.le_refl _),h2]
  simp [hra]
 ·rcases List.mem_or_eq_of_mem_set hr with hr | rfl
  ·exact h3 r hr
  ·exact hs
end Ovi
namespace Ovi
open Go
theorem zbK {a:Rows} {i:Nat} {row:List D} (h:a[i]? = some row):szC row≤szR a:=by
 induction a generalizing i with
 | nil=>simp at h
 | cons r rs ih =>
  cases i with
  | zero=>simp only [List.getElem?_cons_zero,Option.some.injEq] at h;subst h;simp [szR]
  | succ i=>have:=ih h;simp only [szR];omega
end Ovi
namespace Ovi
open Go
def zhy (fn:Func):Bool:=!(fn.name == "runtime.NumGoroutine")&&match fn.body with
 | some c=>zar zaF fn.ntmps c
 | none=>true
def zl2 (P:Program):Bool:=P.funcs.toList.all zhy
theorem zfI {P:Program} (h:zl2 P=true):OkProg P zaF:=by
 have key:∀ (f:FuncId) (fn:Func),P.funcs[f]? = some fn→zhy fn=true:=by
  intro f fn hf
  refine List.all_eq_true.1 h fn ?_
  have:P.funcs.toList[f]? = some fn:=by simpa using hf
  exact List.mem_of_getElem? this
 refine ⟨fun f fn hf=>?_,fun f fn c hf hc=>?_⟩
 ·have:=key f fn hf
  simp only [zhy,Bool.and_eq_true,Bool.not_eq_true'] at this
  exact this.1
 ·have:=key f fn hf
  simp only [zhy,Bool.and_eq_true,hc] at this
  exact this.2
theorem zlq (P:Program) (G:Gd):Sound P G fun f args=>((fun _=>none:FuncId→Option (Args→Option Res)) f).bind fun p=>p args :=
 { known:=fun f args r h=>(nomatch h),plain:=fun f args r h=>(nomatch h),raw:=fun f k e sz xs rest r h=>(nomatch h),mark:=fun f b k xs r h=>(nomatch h) }
end Ovi
namespace Ovi
open Go Go.RowKit Go.Sort
def I1 (zs:List Int):Rows:=zs.map fun z=>[.int .i64 z]
def ints:Rows→Option (List Int)
 | []=>some []
 | [.int .i64 z]::r=>match ints r with | some zs=>some (z::zs) | none=>none
 | _=>none
theorem zbz (zs:List Int):ints (I1 zs)=some zs:=by
 induction zs with
 | nil=>rfl
 | cons z zs ih =>
  show (match ints (I1 zs) with | some zs=>some (z::zs) | none=>none)=_
  rw [ih]
theorem zcU:∀ {xs:Rows} {zs:List Int},ints xs=some zs→xs=I1 zs
 | [],zs,h=>by cases h;rfl
 | [.int .i64 z]::r,zs,h=>by
  unfold ints at h
  split at h
  ·rename_i zs' h'
   cases h
   rw [zcU h']
   rfl
  ·cases h
def zL (zs:List Int):List Int:=zs.mergeSort fun x y=>decide (x≤y)
def zbJ:Args→Option (Nat × List Int)
 | [.var 0 0,.d (.int .i64 e),.d (.list 1 xs)]=>match ints xs with
  | some zs=>cond (Nat.ble zs.length 1099511627776) (some (e.toNat,zs)) none
  | none=>none
 | _=>none
def zcx (args:Args):Option Res:=match zbJ args with
 | some (e,zs)=>some [(false,[.row e 1 (I1 (zL zs))])]
 | none=>none
def zbf (args:Args):Option Res:=match zbJ args with
 | some (e,zs)=>some [(false,[.row e 1 (I1 (Lib.compact zs))]),(true,[])]
 | none=>none
theorem zgN {k:IntKind} {e:Int} {sz:Nat} {xs:Rows} {rest:Args} {e':Nat} {zs:List Int} (h:zbJ (zak::.d (.int k e)::.d (.list sz xs)::rest)=some (e',zs)):sz=1∧rest=[]∧xs=I1 zs∧e'=e.toNat∧zs.length≤1099511627776:=by
 unfold zbJ at h
 split at h
 ·rename_i e1 xs1 heq
  simp only [zak,List.cons.injEq,AV.d.injEq,D.int.injEq,D.list.injEq,true_and] at heq
  obtain ⟨⟨_,rfl⟩,⟨rfl,rfl⟩,rfl⟩:=heq
  split at h
  ·rename_i zs' hz
   cases hb:Nat.ble zs'.length 1099511627776 with
   | false=>rw [hb] at h;cases h
   | true =>
    rw [hb] at h
    cases h
    exact ⟨rfl,rfl,zcU hz,rfl,Nat.le_of_ble_eq_true hb⟩
  ·cases h
 ·cases h
theorem zfL {args:Args} {p:Nat × List Int} (h:zbJ args=some p):∃ e xs,args=[.var 0 0,.d (.int .i64 e),.d (.list 1 xs)]:=by
 unfold zbJ at h
 split at h
 ·exact ⟨_,_,rfl⟩
 ·cases h
section
variable {P:Program} {G:Gd} {w:World} {S T:Nat→Prop} {b e cap:Nat}
theorem zjt (zs:List Int) (i:Nat):(I1 zs)[i]? = (zs[i]?).map fun z=>[.int .i64 z]:=by simp [I1]
theorem zde {zs:List Int} {i c:Nat} {x:D} (h:zk (I1 zs) i c=some x):c=0∧∃ z,zs[i]? = some z∧x=.int .i64 z:=by
 obtain ⟨row,hr,hc⟩:=zav h
 rw [zjt] at hr
 obtain ⟨z,hz,rfl⟩:=Option.map_eq_some_iff.1 hr
 cases c with
 | zero=>simp at hc;exact ⟨rfl,z,hz,hc.symm⟩
 | succ c=>simp at hc
theorem zn (zs:List Int):(I1 zs).length=zs.length:=by simp [I1]
theorem zf0 {zs:List Int} {i:Nat} {z:Int} (h:zs[i]? = some z):zk (I1 zs) i 0=some (.int .i64 z):=by simp [zk,zjt,h]
theorem zf1 (zs:List Int):∀ (i:Nat) (x:List D),(I1 zs)[i]? = some x→x.length=1:=by
 intro i x h
 rw [zjt] at h
 obtain ⟨z,_,rfl⟩:=Option.map_eq_some_iff.1 h
 rfl
theorem zlb {n:Nat} {os:Array Obj} {cur:Array Value} {fr:Nat × Nat} (d:Array Int) (hb:w.heap[b]? = some (.cells cur e fr)) :
  (grow (putRow (Value.int .i64) (Sort.ahead w n) b 0 d) os).heap[b]? = some (.cells (putCells (Value.int .i64) 0 d cur) e fr):=by
 have hg:b < w.heap.size:=(Array.getElem?_eq_some_iff.1 hb).1
 rw [heap_grow_old _ _ (by simpa using hg)]
 simp [putRow,mapBlock,Sort.ahead,Array.getElem?_modify,hb,onCells]
theorem zlP {n:Nat} {os:Array Obj} (d:Array Int) {k:Nat} (hk:k < w.heap.size) (hne:k≠b):(grow (putRow (Value.int .i64) (Sort.ahead w n) b 0 d) os).heap[k]? = w.heap[k]? := by
 rw [heap_grow_old _ _ (by simpa using hk)]
 simp [putRow,mapBlock,Sort.ahead,Array.getElem?_modify,Ne.symm hne]
theorem ziG {zs:List Int} {u:Value} (h:rowC w S T 0 (some b) e 1 (I1 zs) u):∃ cap cur,u=.slice (some ⟨b,0,none⟩) zs.length cap∧w.heap[b]? = some (.cells cur e (0,0))∧zs.length≤cap∧cap≤maxLen∧cur.size=cap∧b < w.heap.size∧¬ S b∧Holds (Value.int .i64) w b 0 zs.toArray:=by
 obtain ⟨_,⟨cap,cur,rfl,hc,h1,h2,h3⟩,_,hS,cur',hc',h4,h5⟩:=h
 rw [zn] at *
 rw [hc] at hc'
 cases hc'
 refine ⟨cap,cur,rfl,hc,h1,h2,by omega,z6 hc,hS,fun j hj=>?_⟩
 have hj':j < zs.length:=by simpa using hj
 obtain ⟨_,v,hv,hr⟩:=h5 j 0 _ (zf0 (List.getElem?_eq_getElem hj'))
 refine ⟨?_,by simp [World.frozen?, hc]⟩
 simp only [World.cell?, hc,Nat.zero_add,Option.isSome_none,Bool.false_eq_true,if_false]
 simp only [Nat.mul_one,Nat.add_zero] at hv
 rw [hv]
 cases hr
 simp [hj']
theorem zkT {cur:Array Value} {n:Nat} {os:Array Obj} {d ys:List Int} (hb:w.heap[b]? = some (.cells cur e (0,0))) (hS:¬ S b) (hd:d.length≤cur.size) (hy:∀ i,i < ys.length→d[i]? = ys[i]?) (hyl:ys.length≤d.length) (hc:ys.length≤cap) (hm:cap≤maxLen) (hcs:cur.size=cap) :
  zjx w (some b) e (grow (putRow (Value.int .i64) (Sort.ahead w n) b 0 d.toArray) os) ∧
  rowC (grow (putRow (Value.int .i64) (Sort.ahead w n) b 0 d.toArray) os) S T 0 (some b) e 1 (I1 ys) (.slice (some ⟨b,0,none⟩) ys.length cap):=by
 have hbl:=z6 hb
 have hnew:(grow (putRow (Value.int .i64) (Sort.ahead w n) b 0 d.toArray) os).heap[b]? = some (.cells (putCells (Value.int .i64) 0 d.toArray cur) e (0,0)):=zlb _ hb
 have hcsz:(putCells (Value.int .i64) 0 d.toArray cur).size=cur.size:=by simp [putCells]
 refine ⟨⟨cur,_,hb,hcsz,rfl,rfl,rfl,by simp [zag],fun k hk=>?_⟩,zf1 ys,?_,Nat.zero_le _,hS,_,hnew,by rw [zn,hcsz];omega,fun i c x hx=>?_⟩
 ·by_cases hkb:k=b
  ·subst hkb
   rw [zaH hbl,hnew]
  ·rw [zaI hkb]
   exact zlP _ hk hkb
 ·rw [zn]
  exact ⟨cap,_,rfl,hnew,hc,hm,by rw [hcsz];omega⟩
 ·obtain ⟨rfl,z,hz,rfl⟩:=zde hx
  have hi:i < ys.length:=(List.getElem?_eq_some_iff.1 hz).1
  refine ⟨rfl,.int .i64 z,?_,.int _ _⟩
  have hid:d[i]? = some z:=by rw [hy i hi,hz]
  have hidl:i < d.length:=by omega
  have hic:i < cur.size:=by omega
  simp only [Nat.mul_one,Nat.add_zero,putCells,Array.getElem?_mapIdx]
  rw [Array.getElem?_eq_getElem hic]
  have hz':d[i]=z:=by rw [List.getElem?_eq_getElem hidl] at hid;exact Option.some.inj hid
  simp [hidl,hz']
theorem zc8 {vs:Array Value} {R:Value→AV→Prop} (h:Leaves R vs []):vs=#[]:=Array.eq_empty_of_size_eq_zero h.1
end
structure SortC (P:Program) (f:FuncId):Prop where
 known:zaE P f
 run:∀ (blk off cap:Nat) (zs:List Int) (w:World),Holds (Value.int .i64) w blk off zs.toArray→blk < w.heap.size→zs.length < 4611686018427387904 →
  Calls P f #[.slice (some ⟨blk,off,none⟩) zs.length cap] w fun e w'=>e=.returned (.tuple #[])∧∃ n os,w'=grow (putRow (Value.int .i64) (Sort.ahead w n) blk off (zs.mergeSort fun x y=>decide (x≤y)).toArray) os
 nil:∀ (A:Option Addr) (w:World),Calls P f #[.slice A 0 0] w fun e w'=>e=.returned (.tuple #[])∧Below w.heap.size w w'
structure CompactC (P:Program) (f:FuncId):Prop where
 known:zaE P f
 run:∀ (blk off cap:Nat) (zs:List Int) (w:World),Holds (Value.int .i64) w blk off zs.toArray→zs.length≤9223372036854775807→zs.length≤cap →
  Calls P f #[.slice (some ⟨blk,off,none⟩) zs.length cap] w fun e w'=>e=.returned (.slice (some ⟨blk,off,none⟩) (Lib.compact zs).length cap)∧∃ q,w'=putRow (Value.int .i64) (Sort.ahead w q) blk off (Lib.compact zs++List.replicate (zs.length - (Lib.compact zs).length) 0).toArray
 nil:∀ (A:Option Addr) (cap:Nat) (w:World),Calls P f #[.slice A 0 cap] w fun e w'=>e=.returned (.slice A 0 cap)∧w'=w
theorem zcG (zs:List Int):(Lib.compact zs).length≤zs.length:=by
 unfold Lib.compact Lib.compactUpTo
 rw [List.length_map]
 exact Nat.le_trans (List.length_filter_le _ _) (by simp)
theorem ziV {P:Program} {G:Gd} {f:FuncId} {e:Int} {xs:Rows} {r:Res}:zax P G f [.var 0 0,.d (.int .i64 e),.d (.list 1 xs)] r:=by
 intro w S T vs hS hT hl
 obtain ⟨u,hu,⟨cs,h⟩,_⟩:=hl.2 0 _ rfl
 cases h
theorem zhZ {P:Program} {G:Gd} {fs:FuncId} (h:SortC P fs) {args:Args} {r:Res} (hr:zcx args=some r):zax P G fs args r∧∀ k e sz xs rest,args=zak::.d (.int k e)::.d (.list sz xs)::rest→∀ e':Nat,e=e'→RawC P fs e' sz xs rest r:=by
 unfold zcx at hr
 split at hr
 ·rename_i e0 zs hra
  cases hr
  refine ⟨?_,fun k e sz xs rest hargs e' he=>?_⟩
  ·obtain ⟨_,_,rfl⟩:=zfL hra
   exact ziV
  ·subst hargs
   obtain ⟨rfl,rfl,rfl,rfl,hlen⟩:=zgN hra
   subst he
   refine Or.inl fun w S T mo u vs hS hT hrow hl=>?_
   obtain rfl:=zc8 hl
   simp only [Array.append_empty,Int.toNat_natCast]
   have hsl:(zL zs).length=zs.length:=by simp [zL]
   cases mo with
   | none =>
    obtain ⟨_,⟨_,A,rfl⟩,hn⟩:=hrow
    have hz:zs=[]:=by simpa [I1] using hn
    subst hz
    refine (h.nil A w).mono fun ex w' ⟨h1,h2⟩=>⟨_,h1,h2,fun _=>⟨by simp [I1,zL],rfl,?_⟩⟩
    refine ⟨fun i x hx=>by simp [I1,zL] at hx,⟨by simp [I1,zL],A,rfl⟩,by simp [I1,zL]⟩
   | some b =>
    obtain ⟨cap,cur,rfl,hc,h1,h2,h3,h4,h5,h6⟩:=ziG hrow
    refine (h.run b 0 cap zs w h6 h4 (by omega)).mono fun ex w' ⟨k1,n,os,k2⟩=>?_
    subst k2
    obtain ⟨q1,q2⟩:=zkT (S:=S) (T:=T) (n:=n) (os:=os) (d:=zL zs) (ys:=zL zs) hc h5 (by omega) (fun _ _=>rfl) (Nat.le_refl _) (by omega) h2 h3
    rw [hsl] at q2
    exact ⟨_,k1,q1,fun _=>⟨by simp [I1,hsl],rfl,q2⟩⟩
 ·cases hr
theorem ze7 {P:Program} {G:Gd} {fs:FuncId} (h:CompactC P fs) {args:Args} {r:Res} (hr:zbf args=some r):zax P G fs args r∧∀ k e sz xs rest,args=zak::.d (.int k e)::.d (.list sz xs)::rest→∀ e':Nat,e=e'→RawC P fs e' sz xs rest r:=by
 unfold zbf at hr
 split at hr
 ·rename_i e0 zs hra
  cases hr
  refine ⟨?_,fun k e sz xs rest hargs e' he=>?_⟩
  ·obtain ⟨_,_,rfl⟩:=zfL hra
   exact ziV
  ·subst hargs
   obtain ⟨rfl,rfl,rfl,rfl,hlen⟩:=zgN hra
   subst he
   refine Or.inl fun w S T mo u vs hS hT hrow hl=>?_
   obtain rfl:=zc8 hl
   simp only [Array.append_empty,Int.toNat_natCast]
   have hsl:=zcG zs
   cases mo with
   | none =>
    obtain ⟨_,⟨_,A,rfl⟩,hn⟩:=hrow
    have hz:zs=[]:=by simpa [I1] using hn
    subst hz
    refine (h.nil A 0 w).mono fun ex w' ⟨h1,h2⟩=>⟨_,h1,by subst h2;exact Below.refl _ _,fun _=>?_⟩
    exact ⟨fun i x hx=>by simp [I1,Lib.compact,Lib.compactUpTo] at hx,⟨by simp [I1,Lib.compact,Lib.compactUpTo],A,rfl⟩,by simp [I1,Lib.compact,Lib.compactUpTo]⟩
   | some b =>
    obtain ⟨cap,cur,rfl,hc,h1,h2,h3,h4,h5,h6⟩:=ziG hrow
    refine (h.run b 0 cap zs w h6 (by unfold maxLen at h2;omega) h1).mono fun ex w' ⟨k1,n,k2⟩=>?_
    subst k2
    obtain ⟨q1,q2⟩:=zkT (S:=S) (T:=T) (n:=n) (os:=#[]) (d:=Lib.compact zs++List.replicate (zs.length - (Lib.compact zs).length) 0) (ys:=Lib.compact zs) hc h5 (by simp;omega) (fun i hi=>by rw [List.getElem?_append_left hi]) (by simp) (by omega) h2 h3
    rw [grow_empty] at q1 q2
    exact ⟨_,k1,q1,fun _=>q2⟩
 ·cases hr
structure CloneC (P:Program) (f:FuncId) (e:TypeId):Prop where
 known:zaE P f
 run:∀ (b off n c:Nat) (zs:List Int) (w:World),n≤zs.length→n * 8≤140737488355328→(∀ j,j < zs.length→w.cell? ⟨b,off+j,none⟩=some (.int .i64 (zs.getD j 0))) →
  Calls P f #[.slice (some ⟨b,off,none⟩) n c] w fun ex w'=>∃ v',ex=.returned v'∧w'.ownsRow w.heap.size e 1 v' n ((zs.take n).map (Value.int .i64))∧v'≠.slice none 0 0∧Below w.heap.size w w'
 nil:∀ (n c:Nat) (w:World),Calls P f #[.slice none n c] w fun ex w'=>ex=.returned (.slice none 0 0)∧w'=w
 zero:∀ (a:Addr) (c:Nat) (w:World),Calls P f #[.slice (some a) 0 c] w fun ex w'=>∃ v',ex=.returned v'∧w'.ownsRow w.heap.size e 1 v' 0 []∧v'≠.slice none 0 0∧Below w.heap.size w w'
def zbn (e:Nat):Args→Option Res
 | [.d (.list 1 xs)]=>match ints xs with
  | some zs=>cond (Nat.ble zs.length 1099511627776) (some [(false,[.row e 1 (I1 zs)])]) none
  | none=>none
 | _=>none
theorem znG {w':World} {S T:Nat→Prop} {B e:Nat} {v:Value} {zs:List Int} (h:w'.ownsRow B e 1 v zs.length (zs.map (Value.int .i64))) (hS:∀ k,S k→k < B):∃ mo,rowC w' S T B mo e 1 (I1 zs) v:=by
 obtain ⟨_,h⟩:=h
 rcases h with ⟨rfl,h0⟩ | ⟨g,cap,cur,rfl,hb,hg,h1,h2,h3,h4⟩
 ·have hz:=List.eq_nil_of_length_eq_zero h0
  subst hz
  exact ⟨none,fun i x hx=>by simp [I1] at hx,⟨by simp [I1],none,rfl⟩,by simp [I1]⟩
 ·refine ⟨some g,zf1 zs,by rw [zn];exact ⟨cap,cur,rfl,hg,h1,h2,h3⟩,hb,fun h=>by have:=hS g h;omega,cur,hg,by rw [zn];omega,fun i c x hx=>?_⟩
  obtain ⟨rfl,z,hz,rfl⟩:=zde hx
  have hi:=(List.getElem?_eq_some_iff.1 hz).1
  refine ⟨rfl,.int .i64 z,?_,.int _ _⟩
  have:(cur.toList.take (zs.length * 1))[i]? = (zs.map (Value.int .i64))[i]? := by rw [h4]
  rw [List.getElem?_take_of_lt (by omega)] at this
  rw [Nat.mul_one,Nat.add_zero,← Array.getElem?_toList,this]
  simp [hz]
theorem zgA {P:Program} {G:Gd} {f:FuncId} {e:Nat} (h:CloneC P f e) {args:Args} {r:Res} (hr:zbn e args=some r):zax P G f args r∧zco args=false:=by
 unfold zbn at hr
 split at hr
 ·rename_i xs
  split at hr
  ·rename_i zs hz
   obtain rfl:=zcU hz
   cases hb:Nat.ble zs.length 1099511627776 with
   | false=>rw [hb] at hr;cases hr
   | true =>
    rw [hb] at hr
    cases hr
    have hb:=Nat.le_of_ble_eq_true hb
    refine ⟨?_,rfl⟩
    intro w S T vs hS hT hl _
    obtain ⟨u,hu,hrd⟩:=hl.2 0 _ rfl
    have hvs:vs=#[u]:=by
     have h1:vs.size=1:=hl.1
     apply Array.ext_getElem?
     intro i
     cases i with
     | zero=>rw [hu];rfl
     | succ i=>rw [Array.getElem?_eq_none (by omega),Array.getElem?_eq_none (by simp)]
    subst hvs
    have hrd:RD w S T u (.list 1 (I1 zs)):=hrd
    have done:∀ {v:Value} {w':World},w'.ownsRow w.heap.size e 1 v zs.length (zs.map (Value.int .i64))→Below w.heap.size w w'→∃ v' S' mr,(Ending.returned v:Ending)=.returned v'∧Below w.heap.size w w'∧(∀ k,S k→S' k)∧(∀ k,S' k→S k∨(w.heap.size≤k∧k < w'.heap.size))∧resC w' S' T w.heap.size mr v' [(false,[.row e 1 (I1 zs)])]∧frC w' S' w.heap.size mr [(false,[.row e 1 (I1 zs)])]:=by
     intro v w' ho hbel
     obtain ⟨mo,hrow⟩:=znG (S:=S) (T:=T) ho hS
     refine ⟨v,S,fun _ _=>mo,rfl,hbel,fun _ h=>h,fun _ h=>.inl h,⟨⟨[v],rfl,rfl,fun i x hx=>?_⟩,fun i j i' j' b h1 h2 _ _=>?_⟩,frC.none rfl⟩
     ·cases i with
      | zero=>cases hx;exact ⟨v,rfl,_,rfl,hrow⟩
      | succ i=>simp at hx
     ·have key:∀ i j,zZ (zR [(false,[.row e 1 (I1 zs)])] i j)=true→i=0∧j=0:=by
       intro i j hij
       cases i with
       | zero =>
        cases j with
        | zero=>exact ⟨rfl,rfl⟩
        | succ j=>simp [zR,zZ] at hij
       | succ i=>simp [zR,zZ] at hij
      obtain ⟨rfl,rfl⟩:=key i j h1
      obtain ⟨rfl,rfl⟩:=key i' j' h2
      exact ⟨rfl,rfl⟩
    generalize hxs:I1 zs=XS at hrd
    cases hrd with
    | list A cap sz xs g h1 h3 h4 h5 h6 =>
     subst hxs
     rw [zn]
     cases A with
     | none =>
      have hz:zs=[]:=by
       cases zs with
       | nil=>rfl
       | cons z zs' =>
        obtain ⟨ad,e,_⟩:=h4 0 0 _ (zf0 (zs:=z::zs') (i:=0) rfl)
        cases e
      subst hz
      refine (h.nil _ cap w).mono fun ex w' ⟨k1,k2⟩=>?_
      subst k1 k2
      exact done (World.ownsRow_nil _ _ _ _) (Below.refl _ _)
     | some ad =>
      by_cases hz:zs=[]
      ·subst hz
       refine (h.zero ad cap w).mono fun ex w' ⟨v',k1,k2,_,k3⟩=>?_
       subst k1
       exact done (by simpa using k2) k3
      ·have hlen:0 < zs.length:=List.length_pos_iff.2 hz
       have hcell:∀ j,j < zs.length→w.cell? (ad.add j)=some (.int .i64 (zs.getD j 0)):=by
        intro j hj
        have hg:=List.getElem?_eq_getElem hj
        obtain ⟨ad',e,_,hc⟩:=h4 j 0 _ (zf0 hg)
        cases e
        have hr:=h5 j 0 _ (zf0 hg)
        rw [Nat.mul_one,Nat.add_zero] at hc
        rw [hc,List.getD_eq_getElem?_getD,hg]
        generalize g j 0=G at hr
        cases hr
        rfl
       obtain ⟨b,off,spot⟩:=ad
       have hspot:spot=none:=by
        have:=hcell 0 hlen
        simpa [Addr.add] using World.cell?_spot this
       subst hspot
       have hcell':∀ j,j < zs.length→w.cell? ⟨b,off+j,none⟩=some (.int .i64 (zs.getD j 0)):=fun j hj=>by
        have:=hcell j hj
        rwa [add_at] at this
       refine (h.run b off zs.length cap zs w (Nat.le_refl _) (by omega) hcell').mono fun ex w' ⟨v',k1,k2,_,k3⟩=>?_
       subst k1
       rw [List.take_length] at k2
       exact done k2 k3
  ·cases hr
 ·cases hr
end Ovi
namespace Ovi
open Go
section
variable {α:Type}
theorem zas {xs:List α} {L:Nat→Int→Option Res} {stop:Nat→α→Bool} {hit:Nat→Option Res} {fin:Option Res}
  (hs:∀ (n i:Nat) x,xs[i]? = some x→L (n+1) (i:Int)=cond (stop i x) (hit i) (L n ((i+1:Nat):Int))) (hd:∀ n,L (n+1) (xs.length:Int)=fin) :
  ∀ n,xs.length < n→(∃ i x,xs[i]? = some x∧stop i x=true∧L n 0=hit i)∨((∀ i x,xs[i]? = some x→stop i x=false)∧L n 0=fin):=by
 have key:∀ (m i n:Nat),i+m=xs.length→m < n→(∀ j x,j < i→xs[j]? = some x→stop j x=false)→(∃ i x,xs[i]? = some x∧stop i x=true∧L n (i:Nat)=L n (i:Nat)∧True)∨True:=fun _ _ _ _ _ _=>.inr trivial
 have main:∀ (m i n:Nat),i+m=xs.length→m < n→(∀ j x,j < i→xs[j]? = some x→stop j x=false) →
   (∃ j x,xs[j]? = some x∧stop j x=true∧L n (i:Int)=hit j)∨((∀ j x,xs[j]? = some x→stop j x=false)∧L n (i:Int)=fin):=by
  intro m
  induction m with
  | zero =>
   intro i n hm hn hj
   obtain ⟨n,rfl⟩:∃ j,n=j+1:=⟨n - 1,by omega⟩
   obtain rfl:i=xs.length:=by omega
   exact .inr ⟨fun j x hx=>hj j x (List.getElem?_eq_some_iff.1 hx).1 hx,hd n⟩
  | succ m ih =>
   intro i n hm hn hj
   obtain ⟨n,rfl⟩:∃ j,n=j+1:=⟨n - 1,by omega⟩
   have hi:i < xs.length:=by omega
   have hx:=List.getElem?_eq_getElem hi
   rw [hs n i _ hx]
   cases hst:stop i xs[i] with
   | true=>exact .inl ⟨i,_,hx,hst,rfl⟩
   | false =>
    refine ih (i+1) n (by omega) (by omega) (fun j x hji hjx=>?_)
    by_cases hji':j=i
    ·subst hji';rw [hx] at hjx;cases hjx;exact hst
    ·exact hj j x (by omega) hjx
 intro n hn
 have:=main xs.length 0 n (by omega) hn (fun j x hj=>by omega)
 simpa using this
theorem zbE {xs:List α} {L:Nat→Int→Option Res} {stop:α→Bool} {hit fin:Option Res}
  (hs:∀ (n i:Nat) x,xs[i]? = some x→L (n+1) (i:Int)=cond (stop x) hit (L n ((i+1:Nat):Int))) (hd:∀ n,L (n+1) (xs.length:Int)=fin) :
  ∀ n,xs.length < n→L n 0=cond (xs.any stop) hit fin:=by
 intro n hn
 rcases zas (stop:=fun _ x=>stop x) (hit:=fun _=>hit) hs hd n hn with ⟨i,x,hx,hst,h⟩ | ⟨hst,h⟩
 ·rw [h,List.any_eq_true.2 ⟨x,List.mem_of_getElem? hx,hst⟩];rfl
 ·have:xs.any stop=false:=by
   rw [List.any_eq_false]
   intro x hx
   obtain ⟨i,hi⟩:=List.mem_iff_getElem?.1 hx
   simpa using hst i x hi
  rw [h,this];rfl
end
theorem zE {i:Nat} {m:Nat} (h:i < m) (hm:m≤maxLen):IntKind.i64.wrap ((i:Int)+1)=((i+1:Nat):Int):=by
 rw [zaj (m:=m) (by omega) (by omega) hm];omega
theorem zcL:∀ (a b:List UInt8),(zaX a b||a==b)=!(zaX b a)
 | [],[]=>rfl
 | [],b::y=>by simp [zaX,Op.bytesLess]
 | a::x,[]=>by simp [zaX,Op.bytesLess]
 | a::x,b::y=>by
  have ih:=zcL x y
  simp only [zaX,Op.bytesLess] at ih ⊢
  rcases Nat.lt_trichotomy a.toNat b.toNat with h | h | h
  ·have h1:a < b:=UInt8.lt_iff_toNat_lt.2 h
   have h2:¬ b < a:=fun h'=>by have:=UInt8.lt_iff_toNat_lt.1 h';omega
   have h3:¬ b=a:=fun e=>by subst e;omega
   simp [h1,h2,h3]
  ·have h0:a=b:=UInt8.toNat_inj.1 h
   subst h0
   have h1:¬ a < a:=fun h'=>by have:=UInt8.lt_iff_toNat_lt.1 h';omega
   simpa [h1] using ih
  ·have h1:b < a:=UInt8.lt_iff_toNat_lt.2 h
   have h2:¬ a < b:=fun h'=>by have:=UInt8.lt_iff_toNat_lt.1 h';omega
   have h3:¬ a=b:=fun e=>by subst e;omega
   simp [h1,h2,h3]
theorem zoK (s:List UInt8) (h:s.length=1):(!zaX s [97])=decide (zbe s 0 ≥ 97)∧(zaX s [122]||s==[122])=decide (zbe s 0≤122):=by
 match s,h with
 | [c],_ =>
  have hc:c.toNat < 256:=c.toNat_lt
  simp only [zbe,List.getD_cons_zero,Int.toNat_zero]
  constructor
  ·rw [Bool.eq_iff_iff]
   simp only [zaX,Op.bytesLess,Bool.and_false,Bool.or_false,Bool.not_eq_true',decide_eq_false_iff_not,decide_eq_true_eq,UInt8.lt_iff_toNat_lt]
   show ¬ c.toNat < 97↔_
   omega
  ·rw [zcL,Bool.eq_iff_iff]
   simp only [zaX,Op.bytesLess,Bool.and_false,Bool.or_false,Bool.not_eq_true',decide_eq_false_iff_not,decide_eq_true_eq,UInt8.lt_iff_toNat_lt]
   show ¬ 122 < c.toNat↔_
   omega
theorem Fit.ints {a:Rows} (h:Fit (.list [.int .i64]) (.list 1 a)):∃ zs,a=I1 zs:=by
 simp only [Fit] at h
 replace h:=h.2.2
 induction a with
 | nil=>exact ⟨[],rfl⟩
 | cons r rs ih =>
  obtain ⟨d,r',rfl,hd,hr⟩:=Fits.cons (h r List.mem_cons_self)
  obtain rfl:=Fits.nil hr
  obtain ⟨z,rfl,_⟩:=hd.int
  obtain ⟨zs,e⟩:=ih (fun x hx=>h x (List.mem_cons_of_mem _ hx))
  exact ⟨z::zs,by rw [e];rfl⟩
abbrev Atom:=Int × List Int
def A1 (xs:List Atom):Rows:=xs.map fun x=>[.int .i64 x.1,.list 1 (I1 x.2)]
theorem zq (xs:List Atom):(A1 xs).length=xs.length:=by simp [A1]
theorem zaG {xs:List Atom} {i:Nat} {x:Atom} (h:xs[i]? = some x):(A1 xs)[i]? = some [.int .i64 x.1,.list 1 (I1 x.2)]:=by simp [A1,h]
theorem I1_get' {zs:List Int} {i:Nat} {z:Int} (h:zs[i]? = some z):(I1 zs)[i]? = some [.int .i64 z]:=by simp [I1,h]
theorem Fit.atoms {a:Rows} (h:Fit (.list [.int .i64,.list [.int .i64]]) (.list 2 a)):∃ xs,a=A1 xs:=by
 simp only [Fit] at h
 replace h:=h.2.2
 induction a with
 | nil=>exact ⟨[],rfl⟩
 | cons r rs ih =>
  obtain ⟨d,r',rfl,hd,hr⟩:=Fits.cons (h r List.mem_cons_self)
  obtain ⟨d2,r2,rfl,hd2,hr2⟩:=Fits.cons hr
  obtain rfl:=Fits.nil hr2
  obtain ⟨z,rfl,_⟩:=hd.int
  obtain ⟨l,rfl,hl⟩:=hd2.list (n:=1) rfl
  obtain ⟨zs,rfl⟩:=hl.ints
  obtain ⟨xs,e⟩:=ih (fun x hx=>h x (List.mem_cons_of_mem _ hx))
  exact ⟨(z,zs)::xs,by rw [e];rfl⟩
theorem zmi (zs:List Int):szR (I1 zs)=0:=by
 induction zs with
 | nil=>rfl
 | cons z zs ih=>show szC [.int .i64 z]+szR (I1 zs)=0;rw [ih];rfl
theorem zoZ (xs:List Atom):szR (A1 xs)=(xs.map fun x=>x.2.length).sum:=by
 induction xs with
 | nil=>rfl
 | cons x xs ih =>
  show szC [.int .i64 x.1,.list 1 (I1 x.2)]+szR (A1 xs)=_
  rw [ih]
  simp [szC,szD,zmi,zn]
theorem zcI (zs:List Int) (z:Int):z∈Lib.compact zs↔z∈zs:=by
 unfold Lib.compact Lib.compactUpTo
 simp only [List.mem_map,List.mem_filter,List.mem_range]
 constructor
 ·rintro ⟨i,⟨hi,_⟩,rfl⟩
  rw [getElem!_pos _ i (by simpa using hi)]
  simp
 ·intro h
  obtain ⟨i,hi,e⟩:=List.mem_iff_getElem.1 h
  have key:∀ i,i < zs.length→∃ j,(j < zs.length∧Lib.keeps zs.toArray j=true)∧zs.toArray[j]! = zs.toArray[i]! := by
   intro i
   induction i with
   | zero=>intro h0;exact ⟨0,⟨h0,by simp [Lib.keeps]⟩,rfl⟩
   | succ i ih =>
    intro h0
    by_cases hk:Lib.keeps zs.toArray (i+1)=true
    ·exact ⟨i+1,⟨h0,hk⟩,rfl⟩
    ·have:zs.toArray[i+1]! = zs.toArray[i]! := by
      simp only [Lib.keeps,decide_eq_true_eq,not_or,Nat.add_sub_cancel,Decidable.not_not] at hk
      exact hk.2
     obtain ⟨j,h1,h2⟩:=ih (by omega)
     exact ⟨j,h1,by rw [h2,this]⟩
  obtain ⟨j,h1,h2⟩:=key i hi
  refine ⟨j,h1,?_⟩
  rw [h2,getElem!_pos _ i (by simpa using hi)]
  simpa using e
theorem zcp (zs:List Int) (z:Int):z∈zL zs↔z∈zs:=by simp [zL]
end Ovi
namespace Ovi
open Go
def SS (l:List Int):Prop:=l.Pairwise (· < ·)
theorem zh1:∀ {a b:List Int},SS a→SS b→(∀ z,z∈a↔z∈b)→a=b
 | [],[],_,_,_=>rfl
 | [],y::bs,_,_,h=>absurd ((h y).2 List.mem_cons_self) (by simp)
 | x::asv,[],_,_,h=>absurd ((h x).1 List.mem_cons_self) (by simp)
 | x::asv,y::bs,ha,hb,h=>by
  have ha1:=List.pairwise_cons.1 ha
  have hb1:=List.pairwise_cons.1 hb
  have hxy:x=y:=by
   have h1:=(h x).1 List.mem_cons_self
   have h2:=(h y).2 List.mem_cons_self
   rcases List.mem_cons.1 h1 with e | h1
   ·exact e
   ·rcases List.mem_cons.1 h2 with e | h2
    ·exact e.symm
    ·have:=hb1.1 x h1;have:=ha1.1 y h2;omega
  subst hxy
  rw [zh1 ha1.2 hb1.2 fun z=>?_]
  constructor
  ·intro hz
   rcases List.mem_cons.1 ((h z).1 (List.mem_cons_of_mem _ hz)) with e | h'
   ·subst e;have:=ha1.1 z hz;omega
   ·exact h'
  ·intro hz
   rcases List.mem_cons.1 ((h z).2 (List.mem_cons_of_mem _ hz)) with e | h'
   ·subst e;have:=hb1.1 z hz;omega
   ·exact h'
theorem ze3 (zs:List Int):SS (Lib.compact (zL zs)):=by
 have hs:(zL zs).Pairwise (·≤·):=by
  have:=List.pairwise_mergeSort (le:=fun x y:Int=>decide (x≤y)) (by intro a b c h1 h2;simp at *;omega) (by intro a b;simp;omega) zs
  exact this.imp (by simp)
 generalize zL zs=d at hs
 have hle:∀ i j,i≤j→j < d.length→d.toArray[i]! ≤ d.toArray[j]! := by
  intro i j hij hj
  rw [getElem!_pos _ i (by simp;omega),getElem!_pos _ j (by simp;omega)]
  simp only [List.getElem_toArray]
  rcases Nat.lt_or_eq_of_le hij with h | rfl
  ·exact List.pairwise_iff_getElem.1 hs i j (by omega) hj h
  ·omega
 have key:∀ m,m≤d.length→SS (Lib.compactUpTo d.toArray m)∧∀ x∈Lib.compactUpTo d.toArray m,∃ i,i < m∧x=d.toArray[i]! := by
  intro m
  induction m with
  | zero=>intro _;exact ⟨by simp [Lib.compactUpTo,SS],fun x hx=>by simp [Lib.compactUpTo] at hx⟩
  | succ m ih =>
   intro hm
   obtain ⟨h1,h2⟩:=ih (by omega)
   rw [Lib.compactUpTo_succ]
   by_cases hk:Lib.keeps d.toArray m=true
   ·rw [if_pos hk]
    refine ⟨List.pairwise_append.2 ⟨h1,by simp,fun x hx y hy=>?_⟩,fun x hx=>?_⟩
    ·obtain ⟨i,hi,rfl⟩:=h2 x hx
     obtain rfl:=List.mem_singleton.1 hy
     have hne:d.toArray[m]! ≠ d.toArray[m - 1]! := by
      simp only [Lib.keeps,decide_eq_true_eq] at hk
      rcases hk with h0 | h0
      ·omega
      ·exact h0
     have:=hle i (m - 1) (by omega) (by omega)
     have:=hle (m - 1) m (by omega) (by omega)
     omega
    ·rcases List.mem_append.1 hx with hx | hx
     ·obtain ⟨i,hi,e⟩:=h2 x hx
      exact ⟨i,by omega,e⟩
     ·exact ⟨m,by omega,List.mem_singleton.1 hx⟩
   ·rw [if_neg hk,List.append_nil]
    exact ⟨h1,fun x hx=>by obtain ⟨i,hi,e⟩:=h2 x hx;exact ⟨i,by omega,e⟩⟩
 exact (key d.length (Nat.le_refl _)).1
def inI (z:Int):Prop := -9223372036854775808≤z∧z≤9223372036854775807
theorem zlQ {z:Int} (h:(Lit.int .i64 z).wf=true):inI z:=by
 simp only [Lit.wf,Bool.and_eq_true,decide_eq_true_eq] at h
 have e1:IntKind.i64.min = -9223372036854775808:=rfl
 have e2:IntKind.i64.max=9223372036854775807:=rfl
 unfold inI;omega
theorem Fit.ints' {a:Rows} (h:Fit (.list [.int .i64]) (.list 1 a)):∃ zs,a=I1 zs∧∀ z∈zs,inI z:=by
 simp only [Fit] at h
 replace h:=h.2.2
 induction a with
 | nil=>exact ⟨[],rfl,by simp⟩
 | cons r rs ih =>
  obtain ⟨d,r',rfl,hd,hr⟩:=Fits.cons (h r List.mem_cons_self)
  obtain rfl:=Fits.nil hr
  obtain ⟨z,rfl,hz⟩:=hd.int
  obtain ⟨zs,e,hzs⟩:=ih (fun x hx=>h x (List.mem_cons_of_mem _ hx))
  exact ⟨z::zs,by rw [e];rfl,fun x hx=>by
   rcases List.mem_cons.1 hx with rfl | hx
   ·exact zlQ hz
   ·exact hzs x hx⟩
theorem Fit.atoms' {a:Rows} (h:Fit (.list [.int .i64,.list [.int .i64]]) (.list 2 a)):∃ xs:List Atom,a=A1 xs∧∀ x∈xs,inI x.1∧∀ z∈x.2,inI z:=by
 simp only [Fit] at h
 replace h:=h.2.2
 induction a with
 | nil=>exact ⟨[],rfl,by simp⟩
 | cons r rs ih =>
  obtain ⟨d,r',rfl,hd,hr⟩:=Fits.cons (h r List.mem_cons_self)
  obtain ⟨d2,r2,rfl,hd2,hr2⟩:=Fits.cons hr
  obtain rfl:=Fits.nil hr2
  obtain ⟨z,rfl,hz⟩:=hd.int
  obtain ⟨l,rfl,hl⟩:=hd2.list (n:=1) rfl
  obtain ⟨zs,rfl,hzs⟩:=hl.ints'
  obtain ⟨xs,e,hxs⟩:=ih (fun x hx=>h x (List.mem_cons_of_mem _ hx))
  exact ⟨(z,zs)::xs,by rw [e];rfl,fun x hx=>by
   rcases List.mem_cons.1 hx with rfl | hx
   ·exact ⟨zlQ hz,hzs⟩
   ·exact hxs x hx⟩
end Ovi
namespace Ovi
open Go Go.RowKit
def zjo:Rows→Option (List (List UInt8))
 | []=>some []
 | [.str s]::r=>match zjo r with | some ts=>some (s::ts) | none=>none
 | _=>none
def T1 (ts:List (List UInt8)):Rows:=ts.map fun s=>[.str s]
theorem zh5:∀ {xs:Rows} {ts:List (List UInt8)},zjo xs=some ts→xs=T1 ts
 | [],ts,h=>by cases h;rfl
 | [.str s]::r,ts,h=>by
  unfold zjo at h
  split at h
  ·rename_i ts' h'
   cases h
   rw [zh5 h']
   rfl
  ·cases h
theorem zly (ts:List (List UInt8)):(T1 ts).length=ts.length:=by simp [T1]
theorem zkZ {ts:List (List UInt8)} {i:Nat} {s:List UInt8} (h:ts[i]? = some s):zk (T1 ts) i 0=some (.str s):=by simp [zk,T1,h]
structure JoinC (P:Program) (f:FuncId):Prop where
 known:zaE P f
 run:∀ (bk o c:Nat) (xs:List ByteArray) (sep:ByteArray) (w:World),(∀ (j:Nat) x,xs[j]? = some x→w.cell? ⟨bk,o+j,none⟩=some (.string x))→bk < w.heap.size→xs.length≤140737488355328→xs.length≤c →
  (Lib.join (xs.map (·.data.toList)) sep.data.toList).length≤140737488355328 →
  Calls P f #[.slice (some ⟨bk,o,none⟩) xs.length c,.string sep] w fun e w'=>e=.returned (.string ⟨(Lib.join (xs.map (·.data.toList)) sep.data.toList).toArray⟩)∧Below w.heap.size w w'
 none:∀ (a:Option Addr) (c:Nat) (sep:ByteArray) (w:World),Calls P f #[.slice a 0 c,.string sep] w fun e w'=>e=.returned (.string ⟨#[]⟩)∧w'=w
def zjl:Args→Option Res
 | [.d (.list 1 xs),.d (.str sep)]=>match zjo xs with
  | some ts=>cond (Nat.ble ts.length 1099511627776&&Nat.ble (Lib.join ts sep).length 1099511627776) (some [(false,[.d (.str (Lib.join ts sep))])]) none
  | none=>none
 | _=>none
theorem zfK {P:Program} {f:FuncId} {w:World} {S T:Nat→Prop} {vs:Array Value} {d:D} (h:Calls P f vs w fun e w'=>∃ v,e=.returned v∧RD w' S T v d∧Below w.heap.size w w') :
  Calls P f vs w fun e w'=>∃ v S' mr,e=.returned v∧Below w.heap.size w w'∧(∀ k,S k→S' k)∧(∀ k,S' k→S k∨(w.heap.size≤k∧k < w'.heap.size))∧resC w' S' T w.heap.size mr v [(false,[.d d])]∧frC w' S' w.heap.size mr [(false,[.d d])] :=
 h.mono fun e w' ⟨v,he,hr,hb⟩=>⟨v,S,fun _ _=>none,he,hb,fun _ h=>h,fun _ h=>.inl h,⟨⟨[v],rfl,rfl,fun i x hx=>by
  cases i with
  | zero=>cases hx;exact ⟨v,rfl,_,rfl,hr⟩
  | succ i=>simp at hx⟩,fun i j i' j' b h1 h2 _ _=>by
  cases i with
  | zero=>cases j<;>simp [zR,zZ] at h1
  | succ i=>simp [zR,zZ] at h1⟩,frC.none rfl⟩
theorem zkL {w:World} {S T:Nat→Prop} {vs:Array Value} {x y:D} (hl:Leaves (AC w S T (fun _=>none) (fun _=>none)) vs [.d x,.d y]):∃ u v,vs=#[u,v]∧RD w S T u x∧RD w S T v y:=by
 obtain ⟨u,hu,hx⟩:=hl.2 0 _ rfl
 obtain ⟨v,hv,hy⟩:=hl.2 1 _ rfl
 refine ⟨u,v,?_,hx,hy⟩
 have h1:vs.size=2:=hl.1
 apply Array.ext_getElem?
 intro i
 match i with
 | 0=>rw [hu];rfl
 | 1=>rw [hv];rfl
 | i+2=>rw [Array.getElem?_eq_none (by omega),Array.getElem?_eq_none (by simp)]
theorem zlT {w:World} {S T:Nat→Prop} {vs:Array Value} {x:D} (hl:Leaves (AC w S T (fun _=>none) (fun _=>none)) vs [.d x]):∃ u,vs=#[u]∧RD w S T u x:=by
 obtain ⟨u,hu,hx⟩:=hl.2 0 _ rfl
 refine ⟨u,?_,hx⟩
 have h1:vs.size=1:=hl.1
 apply Array.ext_getElem?
 intro i
 match i with
 | 0=>rw [hu];rfl
 | i+1=>rw [Array.getElem?_eq_none (by omega),Array.getElem?_eq_none (by simp)]
theorem zhH {P:Program} {G:Gd} {f:FuncId} (h:JoinC P f) {args:Args} {r:Res} (hr:zjl args=some r):zax P G f args r∧zco args=false:=by
 unfold zjl at hr
 split at hr
 ·rename_i xs sep
  split at hr
  ·rename_i ts hz
   obtain rfl:=zh5 hz
   cases hb:(Nat.ble ts.length 1099511627776&&Nat.ble (Lib.join ts sep).length 1099511627776) with
   | false=>rw [hb] at hr;cases hr
   | true =>
    rw [hb] at hr
    cases hr
    rw [Bool.and_eq_true] at hb
    have hb1:=Nat.le_of_ble_eq_true hb.1
    have hb2:=Nat.le_of_ble_eq_true hb.2
    refine ⟨?_,rfl⟩
    intro w S T vs hS hT hl _
    obtain ⟨u,v,rfl,hrd,hsep⟩:=zkL hl
    refine zfK ?_
    obtain ⟨sb,rfl,hsb⟩:∃ sb,v=.string sb∧sb.data.toList=sep:=by cases hsep;exact ⟨_,rfl,rfl⟩
    have mk:∀ l:List UInt8,((⟨l.toArray⟩:ByteArray).data.toList)=l:=fun l=>by simp
    generalize hxs:T1 ts=XS at hrd
    cases hrd with
    | list A cap sz xs g h1 h3 h4 h5 h6 =>
     subst hxs
     rw [zly]
     by_cases hz:ts=[]
     ·subst hz
      refine (h.none A cap sb w).mono fun ex w' ⟨k1,k2⟩=>?_
      subst k1 k2
      exact ⟨_,rfl,.str _,Below.refl _ _⟩
     ·obtain ⟨t0,ht0⟩:∃ t0,ts[0]? = some t0:=by
       cases ts with
       | nil=>exact absurd rfl hz
       | cons t ts=>exact ⟨t,rfl⟩
      obtain ⟨ad,rfl,hSad,hc0⟩:=h4 0 0 _ (zkZ ht0)
      have hcell:∀ (j:Nat) s,ts[j]? = some s→w.cell? (ad.add j)=some (.string ⟨s.toArray⟩):=by
       intro j s hg
       obtain ⟨ad',e,_,hc⟩:=h4 j 0 _ (zkZ hg)
       cases e
       have hr:=h5 j 0 _ (zkZ hg)
       rw [Nat.mul_one,Nat.add_zero] at hc
       rw [hc]
       generalize g j 0=G at hr
       cases hr
       simp
      obtain ⟨b,off,spot⟩:=ad
      have hspot:spot=none:=by
       have:=hcell 0 t0 ht0
       simpa [Addr.add] using World.cell?_spot this
      subst hspot
      let bs:List ByteArray:=ts.map fun s=>⟨s.toArray⟩
      have hbl:bs.length=ts.length:=by simp [bs]
      have hbs:bs.map (·.data.toList)=ts:=by
       simp only [bs,List.map_map]
       conv=>rhs;rw [← List.map_id ts]
       exact List.map_congr_left fun s _=>by simp
      have hcell':∀ (j:Nat) x,bs[j]? = some x→w.cell? ⟨b,off+j,none⟩=some (.string x):=by
       intro j x hx
       simp only [bs,List.getElem?_map,Option.map_eq_some_iff] at hx
       obtain ⟨s,hs,rfl⟩:=hx
       have:=hcell j s hs
       rwa [add_at] at this
      have hcall:=h.run b off cap bs sb w hcell' (hS _ hSad) (by omega) (by rw [hbl];simpa [zly] using h1) (by rw [hbs,hsb];omega)
      rw [hbl,hbs,hsb] at hcall
      refine hcall.mono fun ex w' ⟨k1,k2⟩=>?_
      subst k1
      exact ⟨_,rfl,by have:=RD.str (w:=w') (S:=S) (T:=T) ⟨(Lib.join ts sep).toArray⟩;simpa using this,k2⟩
  ·cases hr
 ·cases hr
structure ItoaC (P:Program) (f:FuncId):Prop where
 known:zaE P f
 run:∀ (i:Nat) (w:World),i < 100→Calls P f #[.int .i64 i] w fun e w'=>e=.returned (.string ⟨(Lib.decDigits i).toArray⟩)∧w'=w
def zjj:Args→Option Res
 | [.d (.int .i64 n)]=>cond (decide (0≤n∧n < 100)) (some [(false,[.d (.str (Lib.decDigits n.toNat))])]) none
 | _=>none
theorem zhG {P:Program} {G:Gd} {f:FuncId} (h:ItoaC P f) {args:Args} {r:Res} (hr:zjj args=some r):zax P G f args r∧zco args=false:=by
 unfold zjj at hr
 split at hr
 ·rename_i n
  cases hb:decide (0≤n∧n < 100) with
  | false=>rw [hb] at hr;cases hr
  | true =>
   rw [hb] at hr
   cases hr
   have hb:=of_decide_eq_true hb
   refine ⟨?_,rfl⟩
   intro w S T vs hS hT hl _
   obtain ⟨u,rfl,hrd⟩:=zlT hl
   refine zfK ?_
   cases hrd
   have:=h.run n.toNat w (by omega)
   rw [Int.toNat_of_nonneg hb.1] at this
   refine this.mono fun ex w' ⟨k1,k2⟩=>?_
   subst k1 k2
   exact ⟨_,rfl,by have:=RD.str (w:=w') (S:=S) (T:=T) ⟨(Lib.decDigits n.toNat).toArray⟩;simpa using this,Below.refl _ _⟩
 ·cases hr
structure PrimOk (P:Program) (G:Gd) (f:FuncId) (p:Args→Option Res):Prop where
 known:zaE P f
 plain:∀ args r,p args=some r→zax P G f args r
 raw:∀ k e sz xs rest r,p (zak::.d (.int k e)::.d (.list sz xs)::rest)=some r→∀ e':Nat,e=e'→RawC P f e' sz xs rest r
 mark:∀ b k xs r,p (zak::.d (.bool b)::.d (.int .i64 k)::xs)=some r→zmU P f b k xs r
def zgg:List (FuncId × (Args→Option Res))→FuncId→Option (Args→Option Res)
 | [],_=>none
 | (i,p)::r,f=>cond (Nat.beq f i) (some p) (zgg r f)
theorem zgW {P:Program} {G:Gd} {l:List (FuncId × (Args→Option Res))} (h:∀ x∈l,PrimOk P G x.1 x.2):Sound P G fun f args=>(zgg l f).bind fun p=>p args:=by
 have key:∀ (l:List (FuncId × (Args→Option Res))),(∀ x∈l,PrimOk P G x.1 x.2)→∀ f args r,(zgg l f).bind (fun p=>p args)=some r→∃ p,PrimOk P G f p∧p args=some r:=by
  intro l
  induction l with
  | nil=>intro _ f args r hr;cases hr
  | cons x l ih =>
   obtain ⟨i,p⟩:=x
   intro hl f args r hr
   unfold zgg at hr
   cases h1:Nat.beq f i with
   | true =>
    rw [h1] at hr
    obtain rfl:=Nat.eq_of_beq_eq_true h1
    exact ⟨p,hl _ List.mem_cons_self,hr⟩
   | false =>
    rw [h1] at hr
    exact ih (fun x hx=>hl x (List.mem_cons_of_mem _ hx)) f args r hr
 refine ⟨fun f args r hr=>?_,fun f args r hr=>?_,fun f k e sz xs rest r hr e' he=>?_,fun f b k xs r hr=>?_⟩
 ·obtain ⟨p,hp,_⟩:=key l h f args r hr
  exact hp.known
 ·obtain ⟨p,hp,hr⟩:=key l h f args r hr
  exact hp.plain args r hr
 ·obtain ⟨p,hp,hr⟩:=key l h f _ r hr
  exact hp.raw k e sz xs rest r hr e' he
 ·obtain ⟨p,hp,hr⟩:=key l h f _ r hr
  exact hp.mark b k xs r hr
theorem SortC.ok {P:Program} {G:Gd} {f:FuncId} (h:SortC P f):PrimOk P G f zcx:=⟨h.known,fun args r hr=>(zhZ h hr).1,fun k e sz xs rest r hr e' he=>(zhZ (G:=noG) h hr).2 k e sz xs rest rfl e' he,fun b k xs r hr=>by first | (cases hr;done) | (unfold zcx at hr;(first | (cases hr;done) | (split at hr<;>cases hr;done) | (cases xs<;>cases hr;done) | (simp at hr;done)))⟩
theorem CompactC.ok {P:Program} {G:Gd} {f:FuncId} (h:CompactC P f):PrimOk P G f zbf:=⟨h.known,fun args r hr=>(ze7 h hr).1,fun k e sz xs rest r hr e' he=>(ze7 (G:=noG) h hr).2 k e sz xs rest rfl e' he,fun b k xs r hr=>by first | (cases hr;done) | (unfold zbf at hr;(first | (cases hr;done) | (split at hr<;>cases hr;done) | (cases xs<;>cases hr;done) | (simp at hr;done)))⟩
theorem CloneC.ok {P:Program} {G:Gd} {f:FuncId} {e:Nat} (h:CloneC P f e):PrimOk P G f (zbn e):=⟨h.known,fun args r hr=>(zgA h hr).1,(fun k e0 sz xs rest r hr e' he=>by have:=(zgA (G:=noG) h hr).2;cases this),fun b k xs r hr=>by first | (cases hr;done) | (unfold zbn at hr;(first | (cases hr;done) | (split at hr<;>cases hr;done) | (cases xs<;>cases hr;done) | (simp at hr;done)))⟩
theorem JoinC.ok {P:Program} {G:Gd} {f:FuncId} (h:JoinC P f):PrimOk P G f zjl:=⟨h.known,fun args r hr=>(zhH h hr).1,(fun k e sz xs rest r hr e' he=>by have:=(zhH (G:=noG) h hr).2;cases this),fun b k xs r hr=>by first | (cases hr;done) | (unfold zjl at hr;(first | (cases hr;done) | (split at hr<;>cases hr;done) | (cases xs<;>cases hr;done) | (simp at hr;done)))⟩
theorem ItoaC.ok {P:Program} {G:Gd} {f:FuncId} (h:ItoaC P f):PrimOk P G f zjj:=⟨h.known,fun args r hr=>(zhG h hr).1,(fun k e sz xs rest r hr e' he=>by have:=(zhG (G:=noG) h hr).2;cases this),fun b k xs r hr=>by first | (cases hr;done) | (unfold zjj at hr;(first | (cases hr;done) | (split at hr<;>cases hr;done) | (cases xs<;>cases hr;done) | (simp at hr;done)))⟩
def tabG (P:Program) (name:String) (k:IntKind) (zs:List Int) (g:Nat) (h:P.globalNamed name=some g):Gd where
 pr:=fun S w=>S g∧Lib.TabIs P w name k zs
 stab:=by
  intro S S' w w' ⟨h1,h2⟩ hs hst
  refine ⟨hs g h1,?_⟩
  have e:=hst g h1
  unfold Lib.TabIs World.var? at h2 ⊢
  rw [h] at h2 ⊢
  simp only [Option.bind_some] at h2 ⊢
  rw [e]
  exact h2
structure ItoaT (P:Program) (f:FuncId) (name:String) (zs:List Int):Prop where
 known:zaE P f
 run:∀ (n:Int) (w:World), -9223372036854775808≤n→n≤9223372036854775807→Lib.TabIs P w name .u64 zs→Calls P f #[.int .i64 n] w fun e w'=>e=.returned (.string ⟨(Lib.itoa n).toArray⟩)∧∃ k os,w'=Sort.grow (w.drewN k) os
def zjk:Args→Option Res
 | [.d (.int .i64 n)]=>cond (decide (-9223372036854775808≤n∧n≤9223372036854775807)) (some [(false,[.d (.str (Lib.itoa n))])]) none
 | _=>none
theorem zgK {P:Program} {f:FuncId} {name:String} {zs:List Int} {g:Nat} {hg:P.globalNamed name=some g} (h:ItoaT P f name zs) {args:Args} {r:Res} (hr:zjk args=some r):zax P (tabG P name .u64 zs g hg) f args r∧zco args=false:=by
 unfold zjk at hr
 split at hr
 ·rename_i n
  cases hb:decide (-9223372036854775808≤n∧n≤9223372036854775807) with
  | false=>rw [hb] at hr;cases hr
  | true =>
   rw [hb] at hr
   cases hr
   have hb:=of_decide_eq_true hb
   refine ⟨?_,rfl⟩
   intro w S T vs hS hT hl hG
   obtain ⟨u,rfl,hrd⟩:=zlT hl
   refine zfK ?_
   cases hrd
   refine (h.run n w hb.1 hb.2 hG.2).mono fun ex w' ⟨k1,k,os,k2⟩=>?_
   subst k1 k2
   exact ⟨_,rfl,by have:=RD.str (w:=Sort.grow (w.drewN k) os) (S:=S) (T:=T) ⟨(Lib.itoa n).toArray⟩;simpa using this,Lib.below_grow _ w (Nat.le_refl _) k os⟩
 ·cases hr
theorem ItoaT.ok {P:Program} {f:FuncId} {name:String} {zs:List Int} {g:Nat} {hg:P.globalNamed name=some g} (h:ItoaT P f name zs):PrimOk P (tabG P name .u64 zs g hg) f zjk:=⟨h.known,fun args r hr=>(zgK h hr).1,(fun k e sz xs rest r hr e' he=>by have:=(zgK (hg:=hg) h hr).2;cases this),fun b k xs r hr=>by (unfold zjk at hr;(first | (cases hr;done) | (split at hr<;>cases hr;done) | (cases xs<;>cases hr;done)))⟩
end Ovi
namespace Ovi
open Go
abbrev BL:=List (List Int)
def hits (o b:List Int):Bool:=o.any fun z=>decide (z∈b)
theorem hits_iff {o b:List Int}:hits o b=true↔∃ z,z∈o∧z∈b:=by simp [hits]
def zdB:BL→List Int→BL→List Int × BL
 | [],b,rest=>(b,rest)
 | o::os,b,rest=>bif hits o b then zdB os (b++o) rest else zdB os b (rest++[o])
def znd (out:BL) (m:List Int):BL:=if m=[] then out else (zdB out m []).2++[Lib.compact (zL (zdB out m []).1)]
def Dj (a b:List Int):Prop:=∀ z,z∈a→z ∉ b
theorem zfF:∀ (os:BL) (b:List Int) (rest:BL),os.Pairwise Dj→zdB os b rest=(b++(os.filter fun o=>hits o b).flatten,rest++os.filter fun o=>!hits o b)
 | [],b,rest,_=>by simp [zdB]
 | o::os,b,rest,h=>by
  have h':=List.pairwise_cons.1 h
  rw [zdB]
  cases hb:hits o b with
  | true =>
   have e:∀ o'∈os,hits o' (b++o)=hits o' b:=by
    intro o' ho'
    rw [Bool.eq_iff_iff,hits_iff,hits_iff]
    constructor
    ·rintro ⟨z,h1,h2⟩
     rcases List.mem_append.1 h2 with h2 | h2
     ·exact ⟨z,h1,h2⟩
     ·exact absurd h1 (h'.1 o' ho' z h2)
    ·rintro ⟨z,h1,h2⟩;exact ⟨z,h1,List.mem_append_left _ h2⟩
   have e2:∀ o'∈os,(!hits o' (b++o))=(!hits o' b):=fun o' ho'=>by rw [e o' ho']
   rw [cond_true,zfF os _ _ h'.2,List.filter_cons_of_pos (by simpa using hb),List.filter_cons_of_neg (by simp [hb]),List.filter_congr e,List.filter_congr e2]
   simp
  | false =>
   rw [cond_false,zfF os _ _ h'.2,List.filter_cons_of_neg (by simp [hb]),List.filter_cons_of_pos (by simp [hb])]
   simp
theorem zhr:∀ {B:BL},B.Pairwise Dj→∀ {a b z},a∈B→b∈B→z∈a→z∈b→a=b
 | [],_,_,_,_,h,_,_,_=>absurd h (by simp)
 | c::B,h,a,b,z,ha,hb,hza,hzb=>by
  have h':=List.pairwise_cons.1 h
  rcases List.mem_cons.1 ha with ha1 | ha1
  ·rcases List.mem_cons.1 hb with hb1 | hb1
   ·rw [ha1,hb1]
   ·exact absurd hzb (h'.1 b hb1 z (ha1▸hza))
  ·rcases List.mem_cons.1 hb with hb1 | hb1
   ·exact absurd hza (h'.1 a ha1 z (hb1▸hzb))
   ·exact zhr h'.2 ha1 hb1 hza hzb
structure BInv (F B:BL):Prop where
 ne:∀ b∈B,b≠[]
 ss:∀ b∈B,SS b
 dj:B.Pairwise Dj
 cov:∀ z,(∃ b∈B,z∈b)↔∃ m∈F,z∈m
 inn:∀ m∈F,m≠[]→∃ b∈B,∀ z∈m,z∈b
 con:∀ f:Int→Prop,(∀ m∈F,∀ x∈m,∀ y∈m,f x→f y)→∀ b∈B,∀ x∈b,∀ y∈b,f x→f y
theorem BInv.nil:BInv [] []:=⟨by simp,by simp,by simp,by simp,by simp,by simp⟩
theorem BInv.step {F B:BL} (h:BInv F B) (m:List Int):BInv (F++[m]) (znd B m):=by
 unfold znd
 by_cases hm:m=[]
 ·subst hm
  rw [if_pos rfl]
  refine ⟨h.ne,h.ss,h.dj,fun z=>?_,fun m' hm' hne=>?_,fun f hf=>h.con f fun m' hm'=>hf m' (List.mem_append_left _ hm')⟩
  ·rw [h.cov z];simp
  ·rcases List.mem_append.1 hm' with hm' | hm'
   ·exact h.inn m' hm' hne
   ·exact absurd (List.mem_singleton.1 hm') hne
 ·rw [if_neg hm,zfF _ _ _ h.dj]
  simp only [List.nil_append]
  generalize hb':Lib.compact (zL (m++(B.filter fun o=>hits o m).flatten))=b'
  have mem:∀ z,z∈b'↔z∈m∨∃ o∈B,hits o m=true∧z∈o:=by
   intro z
   rw [← hb',zcI,zcp]
   simp only [List.mem_append,List.mem_flatten,List.mem_filter]
   constructor
   ·rintro (h1 | ⟨o,⟨h1,h2⟩,h3⟩)
    ·exact .inl h1
    ·exact .inr ⟨o,h1,h2,h3⟩
   ·rintro (h1 | ⟨o,h1,h2,h3⟩)
    ·exact .inl h1
    ·exact .inr ⟨o,⟨h1,h2⟩,h3⟩
  have memf:∀ b,b∈(B.filter fun o=>!hits o m)++[b']↔(b∈B∧hits b m=false)∨b=b':=by
   intro b;simp
  have hin:∀ z∈m,z∈b':=fun z hz=>(mem z).2 (.inl hz)
  refine ⟨?_,?_,?_,?_,?_,?_⟩
  ·intro b hb
   rcases (memf b).1 hb with hb | rfl
   ·exact h.ne b hb.1
   ·intro e
    cases m with
    | nil=>exact hm rfl
    | cons x m=>have:=hin x List.mem_cons_self;rw [e] at this;cases this
  ·intro b hb
   rcases (memf b).1 hb with hb | rfl
   ·exact h.ss b hb.1
   ·rw [← hb'];exact ze3 _
  ·refine List.pairwise_append.2 ⟨h.dj.filter _,by simp,fun a ha b hb z hza hzb=>?_⟩
   obtain rfl:=List.mem_singleton.1 hb
   obtain ⟨ha1,ha2⟩:=List.mem_filter.1 ha
   rcases (mem z).1 hzb with h1 | ⟨o,h1,h2,h3⟩
   ·have:hits a m=true:=hits_iff.2 ⟨z,hza,h1⟩
    rw [this] at ha2;cases ha2
   ·obtain rfl:=zhr h.dj ha1 h1 hza h3
    rw [h2] at ha2;cases ha2
  ·intro z
   constructor
   ·rintro ⟨b,hb,hz⟩
    rcases (memf b).1 hb with hb | rfl
    ·obtain ⟨m',h1,h2⟩:=(h.cov z).1 ⟨b,hb.1,hz⟩
     exact ⟨m',List.mem_append_left _ h1,h2⟩
    ·rcases (mem z).1 hz with h1 | ⟨o,h1,h2,h3⟩
     ·exact ⟨m,by simp,h1⟩
     ·obtain ⟨m',h1,h2⟩:=(h.cov z).1 ⟨o,h1,h3⟩
      exact ⟨m',List.mem_append_left _ h1,h2⟩
   ·rintro ⟨m',hm',hz⟩
    rcases List.mem_append.1 hm' with hm' | hm'
    ·obtain ⟨b,hb,hzb⟩:=(h.cov z).2 ⟨m',hm',hz⟩
     cases hh:hits b m with
     | true=>exact ⟨b',(memf _).2 (.inr rfl),(mem z).2 (.inr ⟨b,hb,hh,hzb⟩)⟩
     | false=>exact ⟨b,(memf _).2 (.inl ⟨hb,hh⟩),hzb⟩
    ·obtain rfl:=List.mem_singleton.1 hm'
     exact ⟨b',(memf _).2 (.inr rfl),hin z hz⟩
  ·intro m' hm' hne
   rcases List.mem_append.1 hm' with hm' | hm'
   ·obtain ⟨b,hb,hzb⟩:=h.inn m' hm' hne
    cases hh:hits b m with
    | true=>exact ⟨b',(memf _).2 (.inr rfl),fun z hz=>(mem z).2 (.inr ⟨b,hb,hh,hzb z hz⟩)⟩
    | false=>exact ⟨b,(memf _).2 (.inl ⟨hb,hh⟩),hzb⟩
   ·obtain rfl:=List.mem_singleton.1 hm'
    exact ⟨b',(memf _).2 (.inr rfl),hin⟩
  ·intro f hf b hb x hx y hy hfx
   have hold:=h.con f fun m' hm'=>hf m' (List.mem_append_left _ hm')
   have hfm:=hf m (by simp)
   rcases (memf b).1 hb with hb | rfl
   ·exact hold b hb.1 x hx y hy hfx
   ·have up:∃ w∈m,f w:=by
     rcases (mem x).1 hx with h1 | ⟨o,h1,h2,h3⟩
     ·exact ⟨x,h1,hfx⟩
     ·obtain ⟨w,hw1,hw2⟩:=hits_iff.1 h2
      exact ⟨w,hw2,hold o h1 x h3 w hw1 hfx⟩
    obtain ⟨w,hw,hfw⟩:=up
    rcases (mem y).1 hy with h1 | ⟨o,h1,h2,h3⟩
    ·exact hfm w hw y h1 hfw
    ·obtain ⟨u,hu1,hu2⟩:=hits_iff.1 h2
     exact hold o h1 u hu1 y h3 (hfm w hw u hu2 hfw)
def mk (M:List Int) (z:Int):Int:=M.getD z.toNat 0
def minL (M:List Int) (m:List Int):Int:=m.foldl (fun l k=>min l (mk M k)) 40
def setL (M:List Int) (m:List Int) (l:Int):List Int:=m.foldl (fun M k=>M.set k.toNat l) M
def zdY (M:List Int) (m:List Int):List Int:=setL M m (minL M m)
def zkb (F:BL) (M:List Int):List Int:=F.foldl zdY M
def in40 (z:Int):Prop:=0≤z∧z < 40
theorem zmM (m:List Int) (M:List Int) (l:Int):(setL M m l).length=M.length:=by
 induction m generalizing M with
 | nil=>rfl
 | cons k m ih=>show (setL (M.set k.toNat l) m l).length=_;rw [ih];simp
theorem znK (m:List Int) (M:List Int) (l z:Int) (hM:M.length=40) (hm:∀ k∈m,in40 k) (hz:in40 z):mk (setL M m l) z=if z∈m then l else mk M z:=by
 induction m generalizing M with
 | nil=>rfl
 | cons k m ih =>
  show mk (setL (M.set k.toNat l) m l) z=_
  rw [ih (M.set k.toNat l) (by simpa using hM) (fun x hx=>hm x (List.mem_cons_of_mem _ hx))]
  have hk:=hm k List.mem_cons_self
  unfold in40 at hk hz
  by_cases h1:z∈m
  ·rw [if_pos h1,if_pos (List.mem_cons_of_mem _ h1)]
  ·rw [if_neg h1]
   by_cases h2:z=k
   ·subst h2
    rw [if_pos List.mem_cons_self]
    have:z.toNat < M.length:=by omega
    simp [mk,List.getD,this]
   ·rw [if_neg (by simp [h1,h2])]
    have:k.toNat≠z.toNat:=by omega
    simp [mk,List.getD,List.getElem?_set_ne this]
theorem zlZ (M:List Int) (m:List Int) (a:Int):m.foldl (fun l k=>min l (mk M k)) a≤a∧(∀ k∈m,m.foldl (fun l k=>min l (mk M k)) a≤mk M k)∧(m.foldl (fun l k=>min l (mk M k)) a=a∨∃ k∈m,m.foldl (fun l k=>min l (mk M k)) a=mk M k):=by
 induction m generalizing a with
 | nil=>exact ⟨Int.le_refl _,by simp,.inl rfl⟩
 | cons k m ih =>
  obtain ⟨h1,h2,h3⟩:=ih (min a (mk M k))
  simp only [List.foldl_cons]
  refine ⟨by omega,fun x hx=>?_,?_⟩
  ·rcases List.mem_cons.1 hx with rfl | hx
   ·omega
   ·exact h2 x hx
  ·rcases h3 with h3 | ⟨x,hx,h3⟩
   ·by_cases h:a≤mk M k
    ·left;omega
    ·right;exact ⟨k,List.mem_cons_self,by omega⟩
   ·exact .inr ⟨x,List.mem_cons_of_mem _ hx,h3⟩
structure MI (B:BL) (M:List Int):Prop where
 len:M.length=40
 ok:∀ b∈B,∀ z∈b,mk M z∈b∧mk M z≤z
def gd (B:BL) (M:List Int) (z:Int):Prop:=∀ b∈B,z∈b→∀ w∈b,mk M z≤w
structure FB (B:BL) (m:List Int):Prop where
 rng:∀ k∈m,in40 k
 one:m≠[]→∃ b∈B,∀ z∈m,z∈b
theorem MI.step {B:BL} {M m:List Int} (h:MI B M) (hd:B.Pairwise Dj) (hB:∀ b∈B,∀ z∈b,in40 z) (hm:FB B m) :
  MI B (zdY M m)∧(∀ z,in40 z→gd B M z→gd B (zdY M m) z)∧(∀ x∈m,gd B M x→∀ y∈m,gd B (zdY M m) y):=by
 have hg:=zlZ M m 40
 have hset:=fun z hz=>znK m M (minL M m) z h.len hm.rng hz
 refine ⟨⟨by rw [zdY,zmM];exact h.len,fun b hb z hz=>?_⟩,fun z hz hgz b hb hzb w hw=>?_,fun x hx hgx y hy b hb hyb w hw=>?_⟩
 ·have h0:=h.ok b hb z hz
  rw [zdY,hset z (hB b hb z hz)]
  by_cases h1:z∈m
  ·rw [if_pos h1]
   have hne:m≠[]:=fun e=>by rw [e] at h1;cases h1
   obtain ⟨b2,hb2,h2⟩:=hm.one hne
   obtain rfl:=zhr hd hb hb2 hz (h2 z h1)
   have hz1:=hg.2.1 z h1
   refine ⟨?_,by unfold minL;omega⟩
   rcases hg.2.2 with h3 | ⟨k,hk,h3⟩
   ·have:=hB b hb _ h0.1
    unfold in40 at this
    omega
   ·show minL M m∈b
    rw [minL,h3]
    exact (h.ok b hb k (h2 k hk)).1
  ·rw [if_neg h1];exact h0
 ·rw [zdY,hset z hz]
  by_cases h1:z∈m
  ·rw [if_pos h1]
   have:=hg.2.1 z h1
   have:=hgz b hb hzb w hw
   unfold minL;omega
  ·rw [if_neg h1];exact hgz b hb hzb w hw
 ·rw [zdY,hset y (hB b hb y hyb),if_pos hy]
  have hne:m≠[]:=fun e=>by rw [e] at hx;cases hx
  obtain ⟨b2,hb2,h2⟩:=hm.one hne
  obtain rfl:=zhr hd hb hb2 hyb (h2 y hy)
  have:=hg.2.1 x hx
  have:=hgx b hb (h2 x hx) w hw
  unfold minL;omega
theorem MI.round {B F:BL} {M:List Int} (h:MI B M) (hd:B.Pairwise Dj) (hB:∀ b∈B,∀ z∈b,in40 z) (hF:∀ m∈F,FB B m) :
  MI B (zkb F M)∧(∀ z,in40 z→gd B M z→gd B (zkb F M) z)∧(∀ m∈F,∀ x∈m,gd B M x→∀ y∈m,gd B (zkb F M) y):=by
 induction F generalizing M with
 | nil=>exact ⟨h,fun _ _ hg=>hg,by simp⟩
 | cons m F ih =>
  obtain ⟨h1,h2,h3⟩:=h.step hd hB (hF m List.mem_cons_self)
  obtain ⟨i1,i2,i3⟩:=ih h1 (fun m' hm'=>hF m' (List.mem_cons_of_mem _ hm'))
  refine ⟨i1,fun z hz hg=>i2 z hz (h2 z hz hg),fun m' hm' x hx hg y hy=>?_⟩
  rcases List.mem_cons.1 hm' with rfl | hm'
  ·exact i2 y ((hF m' List.mem_cons_self).rng y hy) (h3 x hx hg y hy)
  ·exact i3 m' hm' x hx (h2 x ((hF m' (List.mem_cons_of_mem _ hm')).rng x hx) hg) y hy
theorem MI.head {B:BL} {M:List Int} (h:MI B M) (hd:B.Pairwise Dj) (hs:∀ b∈B,SS b) {b:List Int} (hb:b∈B) {x:Int} {b0:List Int} (e:b=x::b0):gd B M x∧(∀ w∈b,x≤w):=by
 have hx:x∈b:=by rw [e];exact List.mem_cons_self
 have hle:∀ w∈b,x≤w:=by
  intro w hw
  rw [e] at hw
  rcases List.mem_cons.1 hw with rfl | hw
  ·exact Int.le_refl _
  ·have:=hs b hb
   rw [e] at this
   exact Int.le_of_lt ((List.pairwise_cons.1 this).1 w hw)
 refine ⟨fun b' hb' hxb' w hw=>?_,hle⟩
 obtain rfl:=zhr hd hb hb' hx hxb'
 have:=(h.ok b hb x hx).2
 have:=hle w hw
 omega
def M0:List Int:=(List.range 40).map fun k:Nat=>(k:Int)
theorem zpV {z:Int} (h:in40 z):mk M0 z=z:=by
 unfold in40 at h
 have h2:z.toNat < 40:=by omega
 have h3:((z.toNat:Nat):Int)=z:=by omega
 simp only [mk,M0,List.getD,List.getElem?_map]
 rw [List.getElem?_range h2]
 exact h3
theorem MI.start {B:BL} (hB:∀ b∈B,∀ z∈b,in40 z):MI B M0 :=
 ⟨by simp [M0],fun b hb z hz=>by rw [zpV (hB b hb z hz)];exact ⟨hz,Int.le_refl _⟩⟩
end Ovi

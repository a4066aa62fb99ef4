/-
Towards the law: a machine that runs the program's own code on plain data, its soundness, the library by its contracts, and what the functions compute: part 3. No condition.
-/
import Derived.Test.YtiacahdabflcdaaGreatCb
import Derived.Shelf.SlSortCmp.Kit1
import Derived.Lib.SlicesCompact
import Derived.Shelf.SlSortCmp.KitK
import Derived.Lib.SliceRun
import Derived.Shelf.SlicesE.Clone
import Derived.Test.YtiacahdabflcdaaGreatProg
import Derived.KernelRfl
set_option linter.unusedVariables false
set_option linter.unusedSimpArgs false
namespace Ovi
open Go Go.Proofs Go.RowKit Go.Sort Go.Lib
def cmpL:List Int→List Int→Int
 | [],[]=>0
 | [],_::_ => -1
 | _::_,[]=>1
 | x::xs,y::ys=>if x < y then -1 else if x > y then 1 else cmpL xs ys
def ltL (x y:List Int):Bool:=decide (cmpL x y < 0)
theorem zed:∀ (x y:List Int),ltL x y=true↔x < y
 | [],[]=>by simp [ltL,cmpL]
 | [],y::ys=>by simp [ltL,cmpL]
 | x::xs,[]=>by simp [ltL,cmpL]
 | x::xs,y::ys=>by
  rw [List.cons_lt_cons_iff,← zed xs ys]
  unfold ltL
  rw [show cmpL (x::xs) (y::ys)=if x < y then -1 else if x > y then 1 else cmpL xs ys from rfl]
  simp only [decide_eq_true_eq]
  by_cases h1:x < y
  ·simp [h1]
  ·by_cases h2:x > y
   ·rw [if_neg h1,if_pos h2]
    constructor
    ·intro h;omega
    ·rintro (h | ⟨h,_⟩)<;>omega
   ·have h3:x=y:=by omega
    rw [if_neg h1,if_neg h2]
    constructor
    ·intro h;exact .inr ⟨h3,h⟩
    ·rintro (h | ⟨_,h⟩)
     ·omega
     ·exact h
theorem zjm (x y:List Int):ltL x y=false↔y≤x:=by
 rw [← List.not_lt,← zed,Bool.not_eq_true]
theorem swoL:SWO ltL where
 irrefl x:=by rw [zjm];exact List.le_refl _
 trans x y z h1 h2:=by rw [zed] at *;exact List.lt_trans h1 h2
 ntrans x y z h1 h2:=by rw [zjm] at *;exact List.le_trans h2 h1
theorem zpd (x y:List Int) (h1:ltL x y=false) (h2:ltL y x=false):x=y:=by
 rw [zjm] at h1 h2
 exact List.le_antisymm h2 h1
def zM (l:BL):BL:=l.mergeSort fun x y=>!ltL y x
theorem zja (l:BL) (b:List Int):b∈zM l↔b∈l:=by simp [zM]
theorem zb9 (l:BL):(zM l).length=l.length:=by simp [zM]
theorem zh0 {l l':BL} (hp:l'.Perm l) (hs:l'.Pairwise fun x y=>ltL y x=false):l'=zM l:=by
 refine List.Perm.eq_of_pairwise (le:=fun x y=>(!ltL y x)=true) ?_ ?_ ?_ (hp.trans (List.mergeSort_perm _ _).symm)
 ·intro a b _ _ h1 h2
  simp only [Bool.not_eq_true'] at h1 h2
  exact zpd a b h2 h1
 ·exact hs.imp fun h=>by rw [h];rfl
 ·refine List.pairwise_mergeSort ?_ ?_ _
  ·intro a b c h1 h2
   simp only [Bool.not_eq_true'] at h1 h2 ⊢
   exact swoL.ntrans c b a h2 h1
  ·intro a b
   cases h:ltL b a with
   | false=>simp
   | true =>
    have:ltL a b=false:=by
     rw [zed] at h
     rw [zjm]
     exact List.le_of_lt h
    simp [this]
def LL (l:BL):Rows:=l.map fun zs=>[.list 1 (I1 zs)]
theorem zQ (l:BL):(LL l).length=l.length:=by simp [LL]
theorem zju (l:BL) (i:Nat):(LL l)[i]? = (l[i]?).map fun zs=>[.list 1 (I1 zs)]:=by simp [LL]
theorem zc1 {l:BL} {i:Nat} {zs:List Int} (h:l[i]? = some zs):zk (LL l) i 0=some (.list 1 (I1 zs)):=by simp [zk,zju,h]
theorem zbx {l:BL} {i c:Nat} {x:D} (h:zk (LL l) i c=some x):c=0∧∃ zs,l[i]? = some zs∧x=.list 1 (I1 zs):=by
 obtain ⟨row,hr,hc⟩:=zav h
 rw [zju] at hr
 obtain ⟨zs,hz,rfl⟩:=Option.map_eq_some_iff.1 hr
 cases c with
 | zero=>simp at hc;exact ⟨rfl,zs,hz,hc.symm⟩
 | succ c=>simp at hc
theorem zdf (l:BL):∀ (i:Nat) (x:List D),(LL l)[i]? = some x→x.length=1:=by
 intro i x h
 rw [zju] at h
 obtain ⟨z,_,rfl⟩:=Option.map_eq_some_iff.1 h
 rfl
def zhJ:Rows→Option BL
 | []=>some []
 | [.list 1 xs]::r=>(ints xs).bind fun zs=>(zhJ r).bind fun l=>some (zs::l)
 | _=>none
theorem zeL:∀ {xs:Rows} {l:BL},zhJ xs=some l→xs=LL l
 | [],l,h=>by cases h;rfl
 | [.list 1 xs]::r,l,h=>by
  unfold zhJ at h
  obtain ⟨zs,h1,h⟩:=Option.bind_eq_some_iff.1 h
  obtain ⟨l',h2,h⟩:=Option.bind_eq_some_iff.1 h
  cases h
  rw [zeL h2,zcU h1]
  rfl
def zbW (g:Nat):Args→Option (Nat × BL)
 | [.var 0 0,.d (.int .i64 e),.d (.list 1 xs),.d (.fn g' [])]=>cond (Nat.beq g' g) ((zhJ xs).bind fun l=>cond (Nat.ble l.length 1099511627776&&l.all fun z=>Nat.ble z.length 1099511627776) (some (e.toNat,l)) none) none
 | _=>none
def zkh (g:Nat) (args:Args):Option Res:=(zbW g args).bind fun p=>some [(false,[.row p.1 1 (LL (zM p.2))])]
theorem zbc {g:Nat} {args:Args} {p:Nat × BL} (h:zbW g args=some p):∃ e xs,args=[.var 0 0,.d (.int .i64 e),.d (.list 1 xs),.d (.fn g [])]:=by
 unfold zbW at h
 split at h
 ·rename_i e xs g'
  cases hb:Nat.beq g' g with
  | false=>rw [hb] at h;cases h
  | true=>exact ⟨e,xs,by rw [Nat.eq_of_beq_eq_true hb]⟩
 ·cases h
theorem zb8 {g:Nat} {k:IntKind} {e:Int} {sz:Nat} {xs:Rows} {rest:Args} {p:Nat × BL} (h:zbW g (zak::.d (.int k e)::.d (.list sz xs)::rest)=some p):sz=1∧rest=[.d (.fn g [])]∧xs=LL p.2∧p.1=e.toNat∧p.2.length≤1099511627776∧∀ z∈p.2,z.length≤1099511627776:=by
 obtain ⟨e1,xs1,heq⟩:=zbc h
 simp only [zak,List.cons.injEq,AV.d.injEq,D.int.injEq,D.list.injEq,true_and] at heq
 obtain ⟨⟨rfl,rfl⟩,⟨rfl,rfl⟩,rfl⟩:=heq
 simp only [zbW,zak,show Nat.beq g g=true from Nat.beq_refl g,cond_true] at h
 obtain ⟨l,hl,h⟩:=Option.bind_eq_some_iff.1 h
 cases hb:(Nat.ble l.length 1099511627776&&l.all fun z=>Nat.ble z.length 1099511627776) with
 | false=>rw [hb] at h;cases h
 | true =>
  rw [hb] at h
  cases h
  rw [Bool.and_eq_true,List.all_eq_true] at hb
  exact ⟨rfl,rfl,zeL hl,rfl,Nat.le_of_ble_eq_true hb.1,fun z hz=>Nat.le_of_ble_eq_true (hb.2 z hz)⟩
def RI (w:World) (S:Nat→Prop) (u:Value) (zs:List Int):Prop:=∃ A cap,u=.slice A zs.length cap∧zs.length≤cap∧∀ (i:Nat) z,zs[i]? = some z→∃ ad,A=some ad∧S ad.block∧w.cell? (ad.add i)=some (.int .i64 z)
section
variable {P:Program} {G:Gd} {w w':World} {S T:Nat→Prop} {u:Value} {zs:List Int}
theorem RD.ri (h:RD w S T u (.list 1 (I1 zs))):RI w S u zs:=by
 generalize hxs:I1 zs=XS at h
 cases h with
 | list A cap sz xs g h1 h3 h4 h5 h6 =>
  subst hxs
  rw [zn] at h1
  refine ⟨A,cap,by rw [zn],h1,fun i z hz=>?_⟩
  obtain ⟨ad,e1,e2,e3⟩:=h4 i 0 _ (zf0 hz)
  have hr:=h5 i 0 _ (zf0 hz)
  refine ⟨ad,e1,e2,?_⟩
  rw [Nat.mul_one,Nat.add_zero] at e3
  rw [e3]
  generalize g i 0=G at hr
  cases hr
  rfl
theorem RI.rd (h:RI w S u zs):RD w S T u (.list 1 (I1 zs)):=by
 obtain ⟨A,cap,rfl,h1,h2⟩:=h
 have:=RD.list (w:=w) (S:=S) (T:=T) A cap 1 (I1 zs) (fun i _=>.int .i64 (zs.getD i 0)) (by rw [zn];exact h1) (zf1 zs) (fun i c x hx=>by
  obtain ⟨rfl,z,hz,rfl⟩:=zde hx
  obtain ⟨ad,e1,e2,e3⟩:=h2 i z hz
  refine ⟨ad,e1,e2,?_⟩
  rw [Nat.mul_one,Nat.add_zero,e3,List.getD_eq_getElem?_getD,hz]
  rfl) (fun i c x hx=>by
  obtain ⟨rfl,z,hz,rfl⟩:=zde hx
  rw [List.getD_eq_getElem?_getD,hz]
  exact .int _ _) (fun i c x hx=>by
  obtain ⟨rfl,z,hz,rfl⟩:=zde hx
  rfl)
 rw [zn] at this
 exact this
theorem RI.stab (h:RI w S u zs) (hs:Stab S w w'):RI w' S u zs:=by
 obtain ⟨A,cap,rfl,h1,h2⟩:=h
 refine ⟨A,cap,rfl,h1,fun i z hz=>?_⟩
 obtain ⟨ad,e1,e2,e3⟩:=h2 i z hz
 exact ⟨ad,e1,e2,by rw [← e3];exact hs.cell (by rw [zbA];exact e2)⟩
structure HdL (w:World) (S:Nat→Prop) where
 v:Value
 l:List Int
 h:RI w S v l
 b:l.length≤1099511627776
def encH (h:HdL w S):Value:=h.v
def lstH (h:HdL w S):List Int:=h.l
instance:Inhabited (HdL w S):=⟨⟨.slice none 0 0,[],⟨none,0,rfl,Nat.le_refl _,fun i z h=>by simp at h⟩,by simp⟩⟩
def cmpH (x y:HdL w S):Int:=cmpL (lstH x) (lstH y)
end
structure SortFC (P:Program) (f g:FuncId):Prop where
 known:zaE P f
 run:∀ (w:World) (S:Nat→Prop) (blk cap:Nat) (d:Array (HdL w S)),(∀ k,S k→k < w.heap.size)→¬ S blk→Holds encH w blk 0 d→blk < w.heap.size→d.size < 4611686018427387904 →
  Calls P f #[.slice (some ⟨blk,0,none⟩) d.size cap,.func (.func g) #[] #[]] w fun e w'=>e=.returned (.tuple #[])∧∃ (d':Array (HdL w S)) (n:Nat) (os:Array Obj),PermIn 0 d.size d d'∧SortedIn (ltOf cmpH) 0 d.size d'∧w'=sortWorld encH w blk 0 n d' os
 nil:∀ (A:Option Addr) (w:World),Calls P f #[.slice A 0 0,.func (.func g) #[] #[]] w fun e w'=>e=.returned (.tuple #[])∧Below w.heap.size w w'
section
variable {P:Program} {G:Gd} {w:World} {S T:Nat→Prop} {b e cap:Nat} {α:Type} [Inhabited α] {enc:α→Value}
theorem zbZ {n:Nat} {os:Array Obj} {cur:Array Value} {fr:Nat × Nat} (d:Array α) (hb:w.heap[b]? = some (.cells cur e fr)) :
  (sortWorld enc w b 0 n d os).heap[b]? = some (.cells (putCells enc 0 d cur) e fr):=by
 have hg:b < w.heap.size:=(Array.getElem?_eq_some_iff.1 hb).1
 unfold sortWorld
 rw [heap_grow_old _ _ (by simpa using hg)]
 simp [putRow,mapBlock,Sort.ahead,Array.getElem?_modify,hb,onCells]
theorem zcH {n:Nat} {os:Array Obj} (d:Array α) {k:Nat} (hk:k < w.heap.size) (hne:k≠b):(sortWorld enc w b 0 n d os).heap[k]? = w.heap[k]? := by
 unfold sortWorld
 rw [heap_grow_old _ _ (by simpa using hk)]
 simp [putRow,mapBlock,Sort.ahead,Array.getElem?_modify,Ne.symm hne]
theorem zcy {n:Nat} {os:Array Obj} (d:Array α) (hS:∀ k,S k→k < w.heap.size) (hb:¬ S b):Stab S w (sortWorld enc w b 0 n d os) :=
 fun k hk=>zcH d (hS k hk) fun h=>hb (h▸hk)
end
theorem mkH {w:World} {S:Nat→Prop} {cur:Array Value}:∀ (l:BL) (o:Nat),(∀ i zs,l[i]? = some zs→∃ v,cur[o+i]? = some v∧RI w S v zs∧zs.length≤1099511627776)→∃ d:List (HdL w S),d.map lstH=l∧∀ j x,d[j]? = some x→cur[o+j]? = some (encH x)
 | [],o,_=>⟨[],rfl,fun j x h=>by simp at h⟩
 | z::l,o,h=>by
  obtain ⟨d,h1,h2⟩:=mkH l (o+1) fun i zs hz=>by
   have:=h (i+1) zs (by simpa using hz)
   rwa [show o+(i+1)=o+1+i by omega] at this
  obtain ⟨v,hv,hr,hzb⟩:=h 0 z rfl
  refine ⟨(⟨v,z,hr,hzb⟩:HdL w S)::d,by rw [List.map_cons,h1];rfl,fun j x hx=>?_⟩
  cases j with
  | zero=>cases hx;exact hv
  | succ j=>rw [show o+(j+1)=o+1+j by omega];exact h2 j x (by simpa using hx)
theorem plain_raw' {P:Program} {G:Gd} {f:FuncId} {rest:Args} {r:Res}:zax P G f (.var 0 0::rest) r:=by
 intro w S T vs hS hT hl
 obtain ⟨u,hu,⟨cs,h⟩,_⟩:=hl.2 0 _ rfl
 cases h
theorem zgU {P:Program} {G:Gd} {fs g:FuncId} (h:SortFC P fs g) {args:Args} {r:Res} (hr:zkh g args=some r):zax P G fs args r∧∀ k e sz xs rest,args=zak::.d (.int k e)::.d (.list sz xs)::rest→∀ e':Nat,e=e'→RawC P fs e' sz xs rest r:=by
 obtain ⟨⟨e0,l⟩,hra,hr⟩:=Option.bind_eq_some_iff.1 hr
 cases hr
 refine ⟨?_,fun k e sz xs rest hargs e' he=>?_⟩
 ·obtain ⟨_,_,rfl⟩:=zbc hra
  exact plain_raw'
 ·subst hargs
  obtain ⟨rfl,rfl,rfl,h4,hlen,hlz⟩:=zb8 hra
  simp only at h4 hlen hlz
  subst he h4
  refine Or.inl fun w S T mo u vs hS hT hrow hl=>?_
  have hvs:vs=#[.func (.func g) #[] #[]]:=by
   obtain ⟨u0,hu0,hrd⟩:=hl.2 0 _ rfl
   have hrd:RD w S T u0 (.fn g []):=hrd
   have h1:vs.size=1:=hl.1
   have h2:u0=.func (.func g) #[] #[]:=by
    generalize hc:([]:Rows)=CS at hrd
    cases hrd with
    | fn f vs' caps g' k1 k4 k5 =>
     subst hc
     rw [Array.eq_empty_of_size_eq_zero k1]
   subst h2
   apply Array.ext_getElem?
   intro i
   cases i with
   | zero=>rw [hu0];rfl
   | succ i=>rw [Array.getElem?_eq_none (by omega),Array.getElem?_eq_none (by simp)]
  subst hvs
  simp only [Int.toNat_natCast]
  have hsl:=zb9 l
  cases mo with
  | none =>
   obtain ⟨_,⟨_,A,rfl⟩,hn⟩:=hrow
   have hz:l=[]:=by simpa [LL] using hn
   subst hz
   refine (h.nil A w).mono fun ex w' ⟨h1,h2⟩=>⟨_,h1,h2,fun _=>⟨by simp [LL,zM],rfl,?_⟩⟩
   refine ⟨fun i x hx=>by simp [LL,zM] at hx,⟨by simp [LL,zM],A,rfl⟩,by simp [LL,zM]⟩
  | some b =>
   obtain ⟨_,⟨cap,cur,rfl,hc,h1,h2,h3⟩,_,hnS,cur',hc',h5,h6⟩:=hrow
   rw [zQ] at *
   rw [hc] at hc'
   cases hc'
   have hblk:b < w.heap.size:=z6 hc
   obtain ⟨dl,hd1,hdl⟩:=mkH (w:=w) (S:=S) (cur:=cur) l 0 fun i zs hz=>by
    obtain ⟨_,v,hv,hrd⟩:=h6 i 0 _ (zc1 hz)
    rw [Nat.mul_one,Nat.add_zero] at hv
    exact ⟨v,by rw [Nat.zero_add];exact hv,RD.ri hrd,hlz _ (List.mem_of_getElem? hz)⟩
   obtain ⟨d,rfl⟩:∃ d:Array (HdL w S),dl=d.toList:=⟨dl.toArray,rfl⟩
   have hd2:Holds encH w b 0 d:=by
    intro j hj
    rw [getElem!_pos d j hj]
    refine ⟨?_,by simp [World.frozen?, hc]⟩
    simp only [World.cell?, hc,Option.isSome_none,Bool.false_eq_true,if_false]
    exact hdl j _ (by simp [hj])
   have hds:d.size=l.length:=by rw [← hd1];simp
   have hcall:=h.run w S b cap d hS hnS hd2 hblk (by omega)
   rw [hds] at hcall
   refine hcall.mono fun ex w' ⟨k1,d',n,os,⟨p1,_,p3⟩,k3,k4⟩=>?_
   subst k4
   have hds':d'.size=l.length:=by rw [p1,hds]
   have hext:∀ (a:Array (HdL w S)) (m:Nat),a.size=m→a.extract 0 m=a:=fun a m hm=>by subst hm;exact Array.extract_size
   rw [hext d' _ hds',hext d _ hds] at p3
   have hys:d'.toList.map lstH=zM l:=by
    refine zh0 (by rw [← hd1];exact p3.map _) ?_
    rw [List.pairwise_map,List.pairwise_iff_getElem]
    intro i j hi hj hij
    have hi':i < d'.size:=by simpa using hi
    have hj':j < d'.size:=by simpa using hj
    have:=k3 i j (Nat.zero_le _) hij (by omega)
    rw [getElem!_pos d' j hj',getElem!_pos d' i hi'] at this
    exact this
   have hnew:=zbZ (enc:=encH) (n:=n) (os:=os) d' hc
   have hcsz:(putCells encH 0 d' cur).size=cur.size:=by simp [putCells]
   have hst:=zcy (enc:=encH) (n:=n) (os:=os) d' hS hnS
   refine ⟨_,k1,⟨cur,_,hc,hcsz,rfl,rfl,rfl,by simp [sortWorld,grow,putRow,mapBlock,Sort.ahead,zag],fun k hk=>?_⟩,fun _=>⟨by rw [zQ,zQ,hsl],rfl,zdf _,?_,Nat.zero_le _,hnS,_,hnew,by rw [zQ,hsl,hcsz];omega,fun i c x hx=>?_⟩⟩
   ·have hk:k < w.heap.size:=by simpa using hk
    by_cases hkb:k=b
    ·subst hkb
     rw [zaH hblk,hnew]
    ·rw [zaI hkb]
     exact zcH _ hk hkb
   ·rw [zQ,hsl]
    exact ⟨cap,_,rfl,hnew,h1,h2,by rw [hcsz];omega⟩
   ·obtain ⟨rfl,zs,hz,rfl⟩:=zbx hx
    have hi:i < d'.size:=by
     have:=(List.getElem?_eq_some_iff.1 hz).1
     omega
    refine ⟨rfl,encH d'[i],?_,?_⟩
    ·have h5':l.length * 1≤cur.size:=h5
     have hic:i < cur.size:=by omega
     simp only [Nat.mul_one,Nat.add_zero,putCells,Array.getElem?_mapIdx]
     rw [Array.getElem?_eq_getElem hic]
     simp [hi]
    ·have:lstH d'[i]=zs:=by
      rw [← hys] at hz
      simpa [hi] using hz
     rw [← this]
     exact RI.rd (RI.stab d'[i].h hst)
theorem SortFC.ok {P:Program} {G:Gd} {f g:FuncId} (h:SortFC P f g):PrimOk P G f (zkh g):=⟨h.known,(fun args r hr=>(zgU h hr).1),(fun k e sz xs rest r hr e' he=>(zgU (G:=noG) h hr).2 k e sz xs rest rfl e' he),fun b k xs r hr=>by first | (cases hr;done) | (unfold zkh at hr;(first | (cases hr;done) | (split at hr<;>cases hr;done) | (cases xs<;>cases hr;done) | (simp at hr;done)))⟩
end Ovi
namespace Ovi
open Go
def fitS:List Int→List Int→List Int→Option (List Int)
 | t::ts,v::vs,b=>if t < 0 then (if v = -1 - t then fitS ts vs b else none) else if b.getD t.toNat 0=10 then fitS ts vs (b.set t.toNat v) else if b.getD t.toNat 0=v then fitS ts vs b else none
 | _,_,b=>some b
theorem zeI:∀ (ts vs b b':List Int),fitS ts vs b=some b'→b'.length=b.length
 | [],_,b,b',h=>by simp only [fitS] at h;cases h;rfl
 | t::ts,[],b,b',h=>by simp only [fitS] at h;cases h;rfl
 | t::ts,v::vs,b,b',h=>by
  rw [fitS] at h
  split at h
  ·split at h
   ·exact zeI ts vs b b' h
   ·cases h
  ·split at h
   ·rw [zeI ts vs _ b' h,List.length_set]
   ·split at h
    ·exact zeI ts vs b b' h
    ·cases h
def fitA (x f:Atom) (b:List Int):Option (List Int):=if x.1=f.1 then fitS x.2 f.2 b else none
theorem zeH {x f:Atom} {b b':List Int} (h:fitA x f b=some b'):b'.length=b.length:=by
 unfold fitA at h
 split at h
 ·exact zeI _ _ _ _ h
 ·cases h
def mats (fs:List Atom):List Atom→List Int→BL
 | [],b=>[b]
 | x::xs,b=>fs.flatMap fun f=>((fitA x f b).map (mats fs xs)).getD []
theorem zg6 (fs:List Atom):∀ (xs:List Atom) (b:List Int),(mats fs xs b).length≤fs.length ^ xs.length
 | [],b=>by simp [mats]
 | x::xs,b=>by
  rw [mats,List.length_flatMap,List.length_cons,Nat.pow_succ]
  have h:∀ gs:List Atom,(gs.map fun f=>(((fitA x f b).map (mats fs xs)).getD []).length).sum≤fs.length ^ xs.length * gs.length:=by
   intro gs
   induction gs with
   | nil=>simp
   | cons g gs ih =>
    rw [List.map_cons,List.sum_cons,List.length_cons,Nat.mul_succ]
    have:(((fitA x g b).map (mats fs xs)).getD []).length≤fs.length ^ xs.length:=by
     cases fitA x g b with
     | none=>simp
     | some b'=>simpa using zg6 fs xs b'
    omega
  exact h fs
theorem zjZ (fs:List Atom):∀ (xs:List Atom) (b c:List Int),c∈mats fs xs b→c.length=b.length
 | [],b,c,h=>by rw [mats,List.mem_singleton] at h;rw [h]
 | x::xs,b,c,h=>by
  rw [mats,List.mem_flatMap] at h
  obtain ⟨f,_,hc⟩:=h
  cases hf:fitA x f b with
  | none=>rw [hf] at hc;simp at hc
  | some b' =>
   rw [hf] at hc
   rw [zjZ fs xs b' c (by simpa using hc),zeH hf]
def ded:BL→BL→BL
 | out,[]=>out
 | out,b::bs=>ded (if b∈out then out else out++[b]) bs
theorem zkC:∀ (bs out:BL),(ded out bs).length≤out.length+bs.length
 | [],out=>by simp [ded]
 | b::bs,out=>by
  rw [ded]
  have:=zkC bs (if b∈out then out else out++[b])
  split at this
  ·rename_i h;rw [if_pos h];simp only [List.length_cons];omega
  ·rename_i h;rw [if_neg h];simp only [List.length_cons,List.length_append,List.length_singleton,List.length_nil] at *;omega
theorem zie:∀ (bs out:BL) (c:List Int),c∈ded out bs↔c∈out∨c∈bs
 | [],out,c=>by simp [ded]
 | b::bs,out,c=>by
  rw [ded,zie bs]
  by_cases h:b∈out
  ·rw [if_pos h,List.mem_cons]
   constructor
   ·rintro (h' | h')
    ·exact .inl h'
    ·exact .inr (.inr h')
   ·rintro (h' | rfl | h')
    ·exact .inl h'
    ·exact .inl h
    ·exact .inr h'
  ·rw [if_neg h,List.mem_append,List.mem_singleton,List.mem_cons]
   constructor
   ·rintro ((h' | h') | h')
    ·exact .inl h'
    ·exact .inr (.inl h')
    ·exact .inr (.inr h')
   ·rintro (h' | h' | h')
    ·exact .inl (.inl h')
    ·exact .inl (.inr h')
    ·exact .inr h'
end Ovi
namespace Ovi
open Go Go.Proofs Go.RowKit Go.Sort Go.Lib
theorem zfE (zs:BL) (z:List Int):z∈Lib.compact zs↔z∈zs:=by
 unfold Lib.compact Lib.compactUpTo
 simp only [List.mem_map,List.mem_filter,List.mem_range]
 constructor
 ·rintro ⟨i,⟨hi,_⟩,rfl⟩
  rw [getElem!_pos _ i (by simpa using hi)]
  simp
 ·intro h
  obtain ⟨i,hi,e⟩:=List.mem_iff_getElem.1 h
  have key:∀ i,i < zs.length→∃ j,(j < zs.length∧Lib.keeps zs.toArray j=true)∧zs.toArray[j]! = zs.toArray[i]! := by
   intro i
   induction i with
   | zero=>intro h0;exact ⟨0,⟨h0,by simp [Lib.keeps]⟩,rfl⟩
   | succ i ih =>
    intro h0
    by_cases hk:Lib.keeps zs.toArray (i+1)=true
    ·exact ⟨i+1,⟨h0,hk⟩,rfl⟩
    ·have:zs.toArray[i+1]! = zs.toArray[i]! := by
      simp only [Lib.keeps,decide_eq_true_eq,not_or,Nat.add_sub_cancel,Decidable.not_not] at hk
      exact hk.2
     obtain ⟨j,h1,h2⟩:=ih (by omega)
     exact ⟨j,h1,by rw [h2,this]⟩
  obtain ⟨j,h1,h2⟩:=key i hi
  refine ⟨j,h1,?_⟩
  rw [h2,getElem!_pos _ i (by simpa using hi)]
  simpa using e
theorem zcn (zs:BL):(Lib.compact zs).length≤zs.length:=by
 unfold Lib.compact Lib.compactUpTo
 rw [List.length_map]
 exact Nat.le_trans (List.length_filter_le _ _) (by simp)
def zjK (g:Nat) (args:Args):Option Res:=(zbW g args).bind fun p=>some [(false,[.row p.1 1 (LL (Lib.compact p.2))]),(true,[])]
structure CompFC (P:Program) (f g:FuncId):Prop where
 known:zaE P f
 run:∀ (w:World) (S:Nat→Prop) (blk cap:Nat) (d:Array (HdL w S)),(∀ k,S k→k < w.heap.size)→¬ S blk→Holds encH w blk 0 d→blk < w.heap.size→d.size < 4611686018427387904→d.size≤cap →
  Calls P f #[.slice (some ⟨blk,0,none⟩) d.size cap,.func (.func g) #[] #[]] w fun e w'=>∃ (dk:Array (HdL w S)) (q kk:Nat),e=.returned (.slice (some ⟨blk,0,none⟩) kk cap)∧dk.size=d.size∧w'=putRow encH (Sort.ahead w q) blk 0 dk∧kk≤d.size∧(dk.toList.take kk).map lstH=Lib.compact (d.toList.map lstH)
 nil:∀ (A:Option Addr) (cap:Nat) (w:World),Calls P f #[.slice A 0 cap,.func (.func g) #[] #[]] w fun e w'=>e=.returned (.slice A 0 cap)∧w'=w
theorem zea {w:World} {S T:Nat→Prop} {g:FuncId} {vs:Array Value} (hl:Leaves (AC w S T (fun _=>none) (fun _=>none)) vs [.d (.fn g [])]):vs=#[.func (.func g) #[] #[]]:=by
 obtain ⟨u0,hu0,hrd⟩:=hl.2 0 _ rfl
 have hrd:RD w S T u0 (.fn g []):=hrd
 have h1:vs.size=1:=hl.1
 have h2:u0=.func (.func g) #[] #[]:=by
  generalize hc:([]:Rows)=CS at hrd
  cases hrd with
  | fn f vs' caps g' k1 k4 k5 =>
   subst hc
   rw [Array.eq_empty_of_size_eq_zero k1]
 subst h2
 apply Array.ext_getElem?
 intro i
 cases i with
 | zero=>rw [hu0];rfl
 | succ i=>rw [Array.getElem?_eq_none (by omega),Array.getElem?_eq_none (by simp)]
theorem zgD {P:Program} {G:Gd} {fs g:FuncId} (h:CompFC P fs g) {args:Args} {r:Res} (hr:zjK g args=some r):zax P G fs args r∧∀ k e sz xs rest,args=zak::.d (.int k e)::.d (.list sz xs)::rest→∀ e':Nat,e=e'→RawC P fs e' sz xs rest r:=by
 obtain ⟨⟨e0,l⟩,hra,hr⟩:=Option.bind_eq_some_iff.1 hr
 cases hr
 refine ⟨?_,fun k e sz xs rest hargs e' he=>?_⟩
 ·obtain ⟨_,_,rfl⟩:=zbc hra
  exact plain_raw'
 ·subst hargs
  obtain ⟨rfl,rfl,rfl,h4,hlen,hlz⟩:=zb8 hra
  simp only at h4 hlen hlz
  subst he h4
  refine Or.inl fun w S T mo u vs hS hT hrow hl=>?_
  obtain rfl:=zea hl
  simp only [Int.toNat_natCast]
  have hsl:=zcn l
  cases mo with
  | none =>
   obtain ⟨_,⟨_,A,rfl⟩,hn⟩:=hrow
   have hz:l=[]:=by simpa [LL] using hn
   subst hz
   refine (h.nil A 0 w).mono fun ex w' ⟨h1,h2⟩=>⟨_,h1,by subst h2;exact Below.refl _ _,fun _=>?_⟩
   exact ⟨fun i x hx=>by simp [LL,Lib.compact,Lib.compactUpTo] at hx,⟨by simp [LL,Lib.compact,Lib.compactUpTo],A,rfl⟩,by simp [LL,Lib.compact,Lib.compactUpTo]⟩
  | some b =>
   obtain ⟨_,⟨cap,cur,rfl,hc,h1,h2,h3⟩,_,hnS,cur',hc',h5,h6⟩:=hrow
   rw [zQ] at *
   rw [hc] at hc'
   cases hc'
   have hblk:b < w.heap.size:=z6 hc
   obtain ⟨dl,hd1,hdl⟩:=mkH (w:=w) (S:=S) (cur:=cur) l 0 fun i zs hz=>by
    obtain ⟨_,v,hv,hrd⟩:=h6 i 0 _ (zc1 hz)
    rw [Nat.mul_one,Nat.add_zero] at hv
    exact ⟨v,by rw [Nat.zero_add];exact hv,RD.ri hrd,hlz _ (List.mem_of_getElem? hz)⟩
   obtain ⟨d,rfl⟩:∃ d:Array (HdL w S),dl=d.toList:=⟨dl.toArray,rfl⟩
   have hd2:Holds encH w b 0 d:=by
    intro j hj
    rw [getElem!_pos d j hj]
    refine ⟨?_,by simp [World.frozen?, hc]⟩
    simp only [World.cell?, hc,Option.isSome_none,Bool.false_eq_true,if_false]
    exact hdl j _ (by simp [hj])
   have hds:d.size=l.length:=by rw [← hd1];simp
   have hcall:=h.run w S b cap d hS hnS hd2 hblk (by omega) (by have h1:l.length≤cap:=h1;omega)
   rw [hds] at hcall
   refine hcall.mono fun ex w' ⟨dk,q,kk,k1,k2,k3,k4,k5⟩=>?_
   rw [hd1] at k5
   have k3':w'=sortWorld encH w b 0 q dk #[]:=by rw [k3,sortWorld,grow_empty]
   subst k3'
   have hnew:=zbZ (enc:=encH) (n:=q) (os:=#[]) dk hc
   have hcsz:(putCells encH 0 dk cur).size=cur.size:=by simp [putCells]
   have hst:=zcy (enc:=encH) (n:=q) (os:=#[]) dk hS hnS
   have hkk:kk=(Lib.compact l).length:=by
    rw [← k5]
    simp only [List.length_map,List.length_take,Array.length_toList]
    omega
   have h5':l.length * 1≤cur.size:=h5
   refine ⟨_,k1,⟨cur,_,hc,hcsz,rfl,rfl,rfl,by simp [sortWorld,grow,putRow,mapBlock,Sort.ahead,zag],fun k hk=>?_⟩,fun _=>⟨zdf _,?_,Nat.zero_le _,hnS,_,hnew,by rw [zQ,hcsz];omega,fun i c x hx=>?_⟩⟩
   ·have hk:k < w.heap.size:=by simpa using hk
    by_cases hkb:k=b
    ·subst hkb
     rw [zaH hblk,hnew]
    ·rw [zaI hkb]
     exact zcH _ hk hkb
   ·rw [zQ,hkk]
    have h1:l.length≤cap:=h1
    exact ⟨cap,_,rfl,hnew,by omega,h2,by rw [hcsz];omega⟩
   ·obtain ⟨rfl,zs,hz,rfl⟩:=zbx hx
    have hi0:=(List.getElem?_eq_some_iff.1 hz).1
    have hi:i < dk.size:=by omega
    refine ⟨rfl,encH dk[i],?_,?_⟩
    ·have hic:i < cur.size:=by omega
     simp only [Nat.mul_one,Nat.add_zero,putCells,Array.getElem?_mapIdx]
     rw [Array.getElem?_eq_getElem hic]
     simp [hi]
    ·have:lstH dk[i]=zs:=by
      rw [← k5,List.getElem?_map,List.getElem?_take_of_lt (by omega)] at hz
      simpa [hi] using hz
     rw [← this]
     exact RI.rd (RI.stab dk[i].h hst)
theorem CompFC.ok {P:Program} {G:Gd} {f g:FuncId} (h:CompFC P f g):PrimOk P G f (zjK g):=⟨h.known,(fun args r hr=>(zgD h hr).1),(fun k e sz xs rest r hr e' he=>(zgD (G:=noG) h hr).2 k e sz xs rest rfl e' he),fun b k xs r hr=>by first | (cases hr;done) | (unfold zjK at hr;(first | (cases hr;done) | (split at hr<;>cases hr;done) | (cases xs<;>cases hr;done) | (simp at hr;done)))⟩
end Ovi
namespace Go.Proofs
open Go.Shelf Go.RowKit Go.Lib Go.Sort
section
variable {P:Program} {α:Type} [Inhabited α] {enc:α→List Value} {k:Nat} {w0 W:World} {blk off:Nat} {dk d0:Array α}
theorem zkd (hk:∀ x,(enc x).length=k) (d:Array α) (i:Nat) (x:α) (hi:i < d.size):setMany (flatK enc k d) (i * k) (enc x)=flatK enc k (d.setIfInBounds i x):=by
 refine ext_get! (by simp) fun t ht=>?_
 have ht':t < d.size * k:=by simpa using ht
 have k0:0 < k:=by
  rcases Nat.eq_zero_or_pos k with h | h
  ·subst h;simp at ht'
  ·exact h
 rw [get_setMany _ _ _ t (by simpa using ht'),get_flatK _ _ _ t ht',get_flatK _ _ _ t (by simpa using ht'),hk]
 by_cases b:t / k=i
 ·rw [if_pos ((blk_iff k i t k0).2 b)]
  subst b
  rw [show t - t / k * k=t % k by rw [Nat.mod_eq_sub_div_mul]]
  simp [hi]
 ·rw [if_neg (fun h=>b ((blk_iff k i t k0).1 h))]
  have:(d.setIfInBounds i x)[t / k]! = d[t / k]! := by
   simp only [Array.getElem!_eq_getD,Array.getD]
   have hlt:t / k < d.size:=(Nat.div_lt_iff_lt_mul k0).2 ht'
   simp [hlt,Array.getElem_setIfInBounds,Ne.symm b]
  rw [this]
theorem SWK.set (h:SWK enc k w0 blk off dk W) (R:RowK enc k w0 blk off d0) (i:Nat) (hi:i < dk.size) (x:α):SWK enc k w0 blk off (dk.setIfInBounds i x) (W.setCells blk (off+i * k) (enc x)):=by
 obtain ⟨n,os,rfl⟩:=h
 refine ⟨n,os,?_⟩
 unfold sortWorldK
 rw [setCells_grow _ _ _ _ _ (by show blk < (putRowK enc k _ blk off dk).heap.size;rw [size_putRowK];exact R.hblk)]
 unfold putRowK
 rw [setCells_putRow _ _ _ _ _ _ (by rw [R.hk,size_flatK];exact rowK_bnd dk k i hi),zkd R.hk dk i x hi]
theorem zdX (b:Nat):∀ (u v:List Value) (o:Nat) (w:World),w.setCells b o (u++v)=(w.setCells b o u).setCells b (o+u.length) v
 | [],v,o,w=>rfl
 | x::u,v,o,w=>by
  show (w.setCell ⟨b,o,none⟩ x).setCells b (o+1) (u++v)=((w.setCell ⟨b,o,none⟩ x).setCells b (o+1) u).setCells b (o+(u.length+1)) v
  rw [zdX b u v (o+1),show o+1+u.length=o+(u.length+1) by omega]
theorem SWK.lay (R:RowK enc k w0 blk off d0) (z:α):∀ (m i:Nat) (dk:Array α) (W:World),SWK enc k w0 blk off dk W→i+m≤dk.size→SWK enc k w0 blk off (Lib.lay dk i (List.replicate m z)) (W.setCells blk (off+i * k) (List.replicate m (enc z)).flatten)
 | 0,i,dk,W,h,_=>h
 | m+1,i,dk,W,h,hi=>by
  rw [List.replicate_succ,List.replicate_succ,List.flatten_cons,zdX,R.hk,Lib.lay]
  have:=SWK.lay R z m (i+1) _ _ (h.set R i (by omega) z) (by simpa using (by omega:i+1+m≤dk.size))
  rw [show off+i * k+k=off+(i+1) * k by rw [Nat.add_mul,Nat.one_mul];omega]
  exact this
theorem zmk (zs:Array Value) (hz:0 < zs.size) (n:Nat):(Builtin.zeroCells zs n).toList=(List.replicate n zs.toList).flatten:=by
 apply List.ext_getElem?
 intro i
 unfold Builtin.zeroCells
 induction n generalizing i with
 | zero=>simp
 | succ n ih =>
  rw [List.replicate_succ,List.flatten_cons]
  by_cases h:i < zs.size
  ·rw [List.getElem?_append_left (by simpa using h)]
   have:i < (n+1) * zs.size:=by rw [Nat.add_mul,Nat.one_mul];omega
   simp [this,Nat.mod_eq_of_lt h,h]
  ·rw [List.getElem?_append_right (by simpa using h),Array.length_toList,← ih (i - zs.size)]
   by_cases h2:i < (n+1) * zs.size
   ·have h3:i - zs.size < n * zs.size:=by rw [Nat.add_mul,Nat.one_mul] at h2;omega
    simp [h2,h3,Nat.mod_eq_sub_mod (show zs.size≤i by omega)]
   ·have h3:¬ i - zs.size < n * zs.size:=by rw [Nat.add_mul,Nat.one_mul] at h2;omega
    simp [h2,h3]
theorem zmt (l:List Value) (n:Nat):(List.replicate n l).flatten.length=n * l.length:=by simp
theorem SWK.clear (h:SWK enc k w0 blk off dk W) (R:RowK enc k w0 blk off d0) (hs:dk.size=d0.size) (P:Program) (t e ty:TypeId) (z:α) (zv:Value) (ht:P.underlying t=some (.slice e)) (hv:∀ w,(zeroValue e).run P w=.ok zv w) (hz:zv.cells.toList=enc z) (hk0:0 < k) (i n c:Nat) (hn:0 < n) (hin:i+n≤dk.size) :
  (Builtin.clear_ #[t] ty #[.slice (some ⟨blk,off+i * k,none⟩) n c]).run P W=.ok (.tuple #[]) (W.setCells blk (off+i * k) (List.replicate n (enc z)).flatten):=by
 have hsz:0 < zv.cells.size:=by
  have:=R.hk z
  rw [← hz,Array.length_toList] at this
  omega
 have hzc:(Builtin.zeroCells zv.cells n).toList=(List.replicate n (enc z)).flatten:=by rw [zmk _ hsz,hz]
 have hst:=stores_of_holds P (h.holds R.hblk R.hH hs) (i * k) (List.replicate n (enc z)).flatten (by
  rw [zmt,R.hk,size_flatK,← Nat.add_mul]
  exact Nat.mul_le_mul_right k hin) (fun v hv'=>by
  obtain ⟨l,hl,hvl⟩:=List.mem_flatten.1 hv'
  rw [List.eq_of_mem_replicate hl] at hvl
  exact R.h1 z v hvl)
 obtain ⟨m,rfl⟩:∃ m,n=m+1:=⟨n - 1,by omega⟩
 simp [Builtin.clear_,run_underlying ht,hv,hzc,hst]
end
end Go.Proofs
namespace Ovi
open Go Go.Proofs Go.RowKit Go.Sort Go.Lib
def cmpA (x y:Atom):Int:=if x.1 < y.1 then -1 else if x.1 > y.1 then 1 else cmpL x.2 y.2
def ltA (x y:Atom):Bool:=decide (cmpA x y < 0)
theorem zim (x y:Atom):ltA x y=true↔x.1 < y.1∨(x.1=y.1∧x.2 < y.2):=by
 rw [← zed]
 unfold ltA ltL cmpA
 simp only [decide_eq_true_eq]
 by_cases h1:x.1 < y.1
 ·simp [h1]
 ·by_cases h2:x.1 > y.1
  ·rw [if_neg h1,if_pos h2]
   constructor
   ·intro h;omega
   ·rintro (h | ⟨h,_⟩)<;>omega
  ·have h3:x.1=y.1:=by omega
   rw [if_neg h1,if_neg h2]
   constructor
   ·intro h;exact .inr ⟨h3,h⟩
   ·rintro (h | ⟨_,h⟩)
    ·omega
    ·exact h
theorem zle (x y:Atom):ltA x y=false↔y.1 < x.1∨(y.1=x.1∧y.2≤x.2):=by
 rw [← Bool.not_eq_true,zim,← List.not_lt]
 constructor
 ·intro h
  by_cases h1:y.1 < x.1
  ·exact .inl h1
  ·have:¬ x.1 < y.1:=fun hh=>h (.inl hh)
   have e:y.1=x.1:=by omega
   exact .inr ⟨e,fun hh=>h (.inr ⟨e.symm,hh⟩)⟩
 ·rintro (h | ⟨h,h2⟩) (h3 | ⟨h3,h4⟩)
  ·omega
  ·omega
  ·omega
  ·exact h2 h4
theorem swoA:SWO ltA where
 irrefl x:=by rw [zle];exact .inr ⟨rfl,List.le_refl _⟩
 trans x y z h1 h2:=by
  rw [zim] at *
  rcases h1 with h1 | ⟨h1,h1'⟩<;>rcases h2 with h2 | ⟨h2,h2'⟩
  ·exact .inl (by omega)
  ·exact .inl (by omega)
  ·exact .inl (by omega)
  ·exact .inr ⟨by omega,List.lt_trans h1' h2'⟩
 ntrans x y z h1 h2:=by
  rw [zle] at *
  rcases h1 with h1 | ⟨h1,h1'⟩<;>rcases h2 with h2 | ⟨h2,h2'⟩
  ·exact .inl (by omega)
  ·exact .inl (by omega)
  ·exact .inl (by omega)
  ·exact .inr ⟨by omega,List.le_trans h2' h1'⟩
theorem zjf (x y:Atom) (h1:ltA x y=false) (h2:ltA y x=false):x=y:=by
 rw [zle] at h1 h2
 rcases h1 with h1 | ⟨h1,h1'⟩<;>rcases h2 with h2 | ⟨h2,h2'⟩
 ·omega
 ·omega
 ·omega
 ·exact Prod.ext h2 (List.le_antisymm h2' h1')
def zaa (l:List Atom):List Atom:=l.mergeSort fun x y=>!ltA y x
theorem ze9 (l:List Atom) (b:Atom):b∈zaa l↔b∈l:=by simp [zaa]
theorem zb7 (l:List Atom):(zaa l).length=l.length:=by simp [zaa]
theorem zfb (l:List Atom):(zaa l).Pairwise fun x y=>ltA y x=false:=by
 have:(zaa l).Pairwise fun x y=>(!ltA y x)=true:=by
  refine List.pairwise_mergeSort ?_ ?_ _
  ·intro a b c h1 h2
   simp only [Bool.not_eq_true'] at h1 h2 ⊢
   exact swoA.ntrans c b a h2 h1
  ·intro a b
   cases h:ltA b a with
   | false=>simp
   | true =>
    have:ltA a b=false:=by
     cases h':ltA a b with
     | false=>rfl
     | true=>have:=swoA.trans _ _ _ h h';rw [swoA.irrefl] at this;cases this
    simp [this]
 exact this.imp fun h=>by simpa using h
theorem zgX {l l':List Atom} (hp:l'.Perm l) (hs:l'.Pairwise fun x y=>ltA y x=false):l'=zaa l:=by
 refine List.Perm.eq_of_pairwise (le:=fun x y=>ltA y x=false) ?_ hs (zfb l) (hp.trans (List.mergeSort_perm _ _).symm)
 intro a b _ _ h1 h2
 exact zjf a b h2 h1
theorem zfZ (l:List Atom):∀ (i:Nat) (x:List D),(A1 l)[i]? = some x→x.length=2:=by
 intro i x h
 simp only [A1,List.getElem?_map] at h
 obtain ⟨z,_,rfl⟩:=Option.map_eq_some_iff.1 h
 rfl
theorem zh7 {l:List Atom} {i c:Nat} {x:D} (h:zk (A1 l) i c=some x):∃ z,l[i]? = some z∧((c=0∧x=.int .i64 z.1)∨(c=1∧x=.list 1 (I1 z.2))):=by
 obtain ⟨row,hr,hc⟩:=zav h
 simp only [A1,List.getElem?_map] at hr
 obtain ⟨z,hz,rfl⟩:=Option.map_eq_some_iff.1 hr
 refine ⟨z,hz,?_⟩
 match c,hc with
 | 0,hc=>cases hc;exact .inl ⟨rfl,rfl⟩
 | 1,hc=>cases hc;exact .inr ⟨rfl,rfl⟩
 | c+2,hc=>simp at hc
theorem zhh {l:List Atom} {i:Nat} {z:Atom} (h:l[i]? = some z):zk (A1 l) i 0=some (.int .i64 z.1):=by simp [zk,zaG h]
theorem zjq {l:List Atom} {i:Nat} {z:Atom} (h:l[i]? = some z):zk (A1 l) i 1=some (.list 1 (I1 z.2)):=by simp [zk,zaG h]
def zdg:Rows→Option (List Atom)
 | []=>some []
 | [.int .i64 r,.list 1 xs]::q=>(ints xs).bind fun zs=>(zdg q).bind fun l=>some ((r,zs)::l)
 | _=>none
theorem zhm (l:List Atom):zdg (A1 l)=some l:=by
 induction l with
 | nil=>rfl
 | cons z l ih =>
  show ((ints (I1 z.2)).bind fun zs=>(zdg (A1 l)).bind fun l=>some ((z.1,zs)::l))=_
  rw [ih,zbz]
  rfl
theorem zfi:∀ {xs:Rows} {l:List Atom},zdg xs=some l→xs=A1 l
 | [],l,h=>by cases h;rfl
 | [.int .i64 r,.list 1 xs]::q,l,h=>by
  unfold zdg at h
  obtain ⟨zs,h1,h⟩:=Option.bind_eq_some_iff.1 h
  obtain ⟨l',h2,h⟩:=Option.bind_eq_some_iff.1 h
  cases h
  rw [zfi h2,zcU h1]
  rfl
def zbL (g:Nat):Args→Option (Nat × List Atom)
 | [.var 0 0,.d (.int .i64 e),.d (.list 2 xs),.d (.fn g' [])]=>cond (Nat.beq g' g) ((zdg xs).bind fun l=>cond (Nat.ble l.length 1099511627776&&l.all fun z=>Nat.ble z.2.length 1099511627776) (some (e.toNat,l)) none) none
 | _=>none
def zkg (g:Nat) (args:Args):Option Res:=(zbL g args).bind fun p=>some [(false,[.row p.1 2 (A1 (zaa p.2))])]
def zjJ (g:Nat) (args:Args):Option Res:=(zbL g args).bind fun p=>some [(false,[.row p.1 2 (A1 (Lib.compact p.2))]),(true,[])]
theorem zbj {g:Nat} {args:Args} {p:Nat × List Atom} (h:zbL g args=some p):∃ e xs,args=[.var 0 0,.d (.int .i64 e),.d (.list 2 xs),.d (.fn g [])]:=by
 unfold zbL at h
 split at h
 ·rename_i e xs g'
  cases hb:Nat.beq g' g with
  | false=>rw [hb] at h;cases h
  | true=>exact ⟨e,xs,by rw [Nat.eq_of_beq_eq_true hb]⟩
 ·cases h
theorem zcm {g:Nat} {k:IntKind} {e:Int} {sz:Nat} {xs:Rows} {rest:Args} {p:Nat × List Atom} (h:zbL g (zak::.d (.int k e)::.d (.list sz xs)::rest)=some p):sz=2∧rest=[.d (.fn g [])]∧xs=A1 p.2∧p.1=e.toNat∧p.2.length≤1099511627776∧∀ z∈p.2,z.2.length≤1099511627776:=by
 obtain ⟨e1,xs1,heq⟩:=zbj h
 simp only [zak,List.cons.injEq,AV.d.injEq,D.int.injEq,D.list.injEq,true_and] at heq
 obtain ⟨⟨rfl,rfl⟩,⟨rfl,rfl⟩,rfl⟩:=heq
 simp only [zbL,zak,show Nat.beq g g=true from Nat.beq_refl g,cond_true] at h
 obtain ⟨l,hl,h⟩:=Option.bind_eq_some_iff.1 h
 cases hb:(Nat.ble l.length 1099511627776&&l.all fun z=>Nat.ble z.2.length 1099511627776) with
 | false=>rw [hb] at h;cases h
 | true =>
  rw [hb] at h
  cases h
  rw [Bool.and_eq_true,List.all_eq_true] at hb
  exact ⟨rfl,rfl,zfi hl,rfl,Nat.le_of_ble_eq_true hb.1,fun z hz=>Nat.le_of_ble_eq_true (hb.2 z hz)⟩
structure HdA (w:World) (S:Nat→Prop) where
 r:Int
 v:Value
 l:List Int
 h:RI w S v l
 b:l.length≤1099511627776
section
variable {w:World} {S:Nat→Prop}
def encA (h:HdA w S):List Value:=[.int .i64 h.r,h.v]
def lstA (h:HdA w S):Int × List Int:=(h.r,h.l)
def zcN (w:World) (S:Nat→Prop):HdA w S:=⟨0,.slice none 0 0,[],⟨none,0,rfl,Nat.le_refl _,fun i z h=>by simp at h⟩,by simp⟩
instance:Inhabited (HdA w S):=⟨zcN w S⟩
theorem zjN (x:HdA w S):(encA x).length=2:=rfl
theorem zeF (x:HdA w S):∀ v∈encA x,v.oneCell'=true:=by
 obtain ⟨r,v,l,⟨A,c,rfl,_⟩,_⟩:=x
 intro v hv
 simp only [encA,List.mem_cons,List.not_mem_nil,or_false] at hv
 rcases hv with rfl | rfl<;>rfl
def zeB (x y:HdA w S):Int:=cmpA (lstA x) (lstA y)
theorem zp2:SWO (ltOf (zeB (w:=w) (S:=S))):=⟨fun x=>swoA.irrefl _,fun x y z h1 h2=>swoA.trans _ _ _ h1 h2,fun x y z h1 h2=>swoA.ntrans _ _ _ h1 h2⟩
end
theorem zjc {w:World} {S:Nat→Prop} (blk m:Nat) (dk:Array (HdA w S)) (os:Array Obj):sortWorldK encA 2 w blk 0 m dk os=sortWorld id w blk 0 m (flatK encA 2 dk) os:=rfl
structure SortAC (P:Program) (f g:FuncId):Prop where
 known:zaE P f
 run:∀ (w:World) (S:Nat→Prop) (blk cap:Nat) (d:Array (HdA w S)),(∀ k,S k→k < w.heap.size)→¬ S blk→HoldsK encA 2 w blk 0 d→blk < w.heap.size→d.size < 4611686018427387904 →
  Calls P f #[.slice (some ⟨blk,0,none⟩) d.size cap,.func (.func g) #[] #[]] w fun e w'=>e=.returned (.tuple #[])∧∃ (d':Array (HdA w S)) (n:Nat) (os:Array Obj),PermIn 0 d.size d d'∧SortedIn (ltOf zeB) 0 d.size d'∧w'=sortWorldK encA 2 w blk 0 n d' os
 nil:∀ (A:Option Addr) (w:World),Calls P f #[.slice A 0 0,.func (.func g) #[] #[]] w fun e w'=>e=.returned (.tuple #[])∧Below w.heap.size w w'
structure CompAC (P:Program) (f g:FuncId):Prop where
 known:zaE P f
 run:∀ (w:World) (S:Nat→Prop) (blk cap:Nat) (d:Array (HdA w S)),(∀ k,S k→k < w.heap.size)→¬ S blk→HoldsK encA 2 w blk 0 d→blk < w.heap.size→d.size < 4611686018427387904→d.size≤cap →
  Calls P f #[.slice (some ⟨blk,0,none⟩) d.size cap,.func (.func g) #[] #[]] w fun e w'=>∃ (dk:Array (HdA w S)) (kk n:Nat) (os:Array Obj),e=.returned (.slice (some ⟨blk,0,none⟩) kk cap)∧dk.size=d.size∧w'=sortWorldK encA 2 w blk 0 n dk os∧kk≤d.size∧(dk.toList.take kk).map lstA=Lib.compact (d.toList.map lstA)
 nil:∀ (A:Option Addr) (cap:Nat) (w:World),Calls P f #[.slice A 0 cap,.func (.func g) #[] #[]] w fun e w'=>e=.returned (.slice A 0 cap)∧w'=w
theorem mkA {w:World} {S:Nat→Prop} {cur:Array Value}:∀ (l:List Atom) (o:Nat),(∀ i z,l[i]? = some z→∃ v,cur[(o+i) * 2]? = some (.int .i64 z.1)∧cur[(o+i) * 2+1]? = some v∧RI w S v z.2∧z.2.length≤1099511627776)→∃ d:List (HdA w S),d.map lstA=l∧∀ j x,d[j]? = some x→cur[(o+j) * 2]? = some (.int .i64 x.r)∧cur[(o+j) * 2+1]? = some x.v
 | [],o,_=>⟨[],rfl,fun j x h=>by simp at h⟩
 | z::l,o,h=>by
  obtain ⟨d,h1,h2⟩:=mkA l (o+1) fun i zs hz=>by
   have:=h (i+1) zs (by simpa using hz)
   rwa [show o+(i+1)=o+1+i by omega] at this
  obtain ⟨v,hv0,hv,hr,hzb⟩:=h 0 z rfl
  refine ⟨(⟨z.1,v,z.2,hr,hzb⟩:HdA w S)::d,by rw [List.map_cons,h1];rfl,fun j x hx=>?_⟩
  cases j with
  | zero=>cases hx;exact ⟨hv0,hv⟩
  | succ j=>rw [show o+(j+1)=o+1+j by omega];exact h2 j x (by simpa using hx)
theorem RD.int_eq {w:World} {S T:Nat→Prop} {v:Value} {z:Int} (h:RD w S T v (.int .i64 z)):v=.int .i64 z:=by cases h;rfl
section
variable {P:Program} {G:Gd} {w:World} {S T:Nat→Prop} {b e cap:Nat} {l:List Atom} {u:Value} {fs g:FuncId}
theorem zjn {cur:Array Value} {fr:Nat × Nat} (hc:w.heap[b]? = some (.cells cur e fr)) (hlz:∀ z∈l,z.2.length≤1099511627776) (h6:∀ i c x,zk (A1 l) i c=some x→x.isFn=false∧∃ v,cur[i * 2+c]? = some v∧RD w S T v x) :
  ∃ d:Array (HdA w S),d.toList.map lstA=l∧d.size=l.length∧(fr=(0,0)→HoldsK encA 2 w b 0 d):=by
 obtain ⟨dl,hd1,hdl⟩:=mkA (w:=w) (S:=S) (cur:=cur) l 0 fun i z hz=>by
  obtain ⟨_,v0,hv0,hrd0⟩:=h6 i 0 _ (zhh hz)
  obtain ⟨_,v,hv,hrd⟩:=h6 i 1 _ (zjq hz)
  rw [RD.int_eq hrd0] at hv0
  rw [Nat.zero_add]
  exact ⟨v,hv0,hv,RD.ri hrd,hlz _ (List.mem_of_getElem? hz)⟩
 refine ⟨dl.toArray,by simpa using hd1,by rw [← hd1];simp,fun hfr=>?_⟩
 subst hfr
 intro t ht
 rw [size_flatK] at ht
 have hts:t / 2 < dl.toArray.size:=by omega
 have hx:=hdl (t / 2) _ (by rw [List.getElem?_eq_getElem (by simpa using hts)])
 rw [Nat.zero_add] at hx
 refine ⟨?_,by simp [World.frozen?, hc]⟩
 simp only [World.cell?, hc,Option.isSome_none,Bool.false_eq_true,if_false,Nat.zero_add,id]
 rw [get_flatK _ _ _ _ ht,getElem!_pos _ (t / 2) hts]
 rcases Nat.mod_two_eq_zero_or_one t with h | h
 ·rw [h]
  have e:t=t / 2 * 2:=by omega
  have h1:=hx.1
  rw [← e] at h1
  rw [h1]
  simp [encA]
 ·rw [h]
  have e:t=t / 2 * 2+1:=by omega
  have h1:=hx.2
  rw [← e] at h1
  rw [h1]
  simp [encA]
theorem putA {cur:Array Value} (hS:∀ k,S k→k < w.heap.size) (hnS:¬ S b) (hc:w.heap[b]? = some (.cells cur e (0,0))) (dk:Array (HdA w S)) (n:Nat) (os:Array Obj) (kk:Nat) (hcs:dk.size * 2≤cur.size) (hkk:kk≤dk.size) :
  ∀ i c x,zk (A1 ((dk.toList.take kk).map lstA)) i c=some x→x.isFn=false∧∃ v,(putCells id 0 (flatK encA 2 dk) cur)[i * 2+c]? = some v∧RD (sortWorldK encA 2 w b 0 n dk os) S T v x:=by
 intro i c x hx
 have hst:=zcy (enc:=id) (n:=n) (os:=os) (flatK encA 2 dk) hS hnS
 obtain ⟨z,hz,hcx⟩:=zh7 hx
 rw [List.getElem?_map,Option.map_eq_some_iff] at hz
 obtain ⟨h,hh,rfl⟩:=hz
 have hi0:=(List.getElem?_eq_some_iff.1 hh).1
 rw [List.length_take,Array.length_toList] at hi0
 have hi:i < dk.size:=by omega
 rw [List.getElem?_take_of_lt (by omega),Array.getElem?_toList,Array.getElem?_eq_getElem hi,Option.some.injEq] at hh
 have hcell:∀ c,c < 2→(putCells id 0 (flatK encA 2 dk) cur)[i * 2+c]? = some ((encA dk[i])[c]!):=by
  intro c hc2
  have hic:i * 2+c < cur.size:=by omega
  have hif:i * 2+c < dk.size * 2:=by omega
  have hgf:=get_flatK encA 2 dk (i * 2+c) hif
  rw [show (i * 2+c) / 2=i by omega,show (i * 2+c) % 2=c by omega,getElem!_pos dk i hi] at hgf
  simp only [putCells,Array.getElem?_mapIdx]
  rw [Array.getElem?_eq_getElem hic]
  simp only [Option.map_some,size_flatK,Nat.sub_zero,Nat.zero_le,Nat.zero_add,true_and,hif,if_true,id,hgf]
 rcases hcx with ⟨rfl,rfl⟩ | ⟨rfl,rfl⟩
 ·refine ⟨rfl,_,hcell 0 (by omega),?_⟩
  rw [← hh]
  exact .int _ _
 ·refine ⟨rfl,_,hcell 1 (by omega),?_⟩
  rw [← hh]
  exact RI.rd (RI.stab dk[i].h hst)
theorem zjp {cur:Array Value} (hc:w.heap[b]? = some (.cells cur e (0,0))) (dk:Array (HdA w S)) (n:Nat) (os:Array Obj):zjx w (some b) e (sortWorldK encA 2 w b 0 n dk os):=by
 have hblk:b < w.heap.size:=z6 hc
 have hnew:=zbZ (enc:=id) (n:=n) (os:=os) (flatK encA 2 dk) hc
 refine ⟨cur,_,hc,(by simp [putCells]:(putCells id 0 (flatK encA 2 dk) cur).size=cur.size),rfl,rfl,rfl,by simp [zjc,sortWorld,grow,putRow,mapBlock,Sort.ahead,zag],fun k hk=>?_⟩
 have hk:k < w.heap.size:=by simpa using hk
 by_cases hkb:k=b
 ·subst hkb
  rw [zaH hblk]
  exact hnew
 ·rw [zaI hkb]
  exact zcH _ hk hkb
theorem zgT (h:SortAC P fs g) {args:Args} {r:Res} (hr:zkg g args=some r):zax P G fs args r∧∀ k e sz xs rest,args=zak::.d (.int k e)::.d (.list sz xs)::rest→∀ e':Nat,e=e'→RawC P fs e' sz xs rest r:=by
 obtain ⟨⟨e0,l⟩,hra,hr⟩:=Option.bind_eq_some_iff.1 hr
 cases hr
 refine ⟨?_,fun k e sz xs rest hargs e' he=>?_⟩
 ·obtain ⟨_,_,rfl⟩:=zbj hra
  exact plain_raw'
 ·subst hargs
  obtain ⟨rfl,rfl,rfl,h4,hlen,hlz⟩:=zcm hra
  simp only at h4 hlen hlz
  subst he h4
  refine Or.inl fun w S T mo u vs hS hT hrow hl=>?_
  obtain rfl:=zea hl
  simp only [Int.toNat_natCast]
  have hsl:=zb7 l
  cases mo with
  | none =>
   obtain ⟨_,⟨_,A,rfl⟩,hn⟩:=hrow
   have hz:l=[]:=by simpa [A1] using hn
   subst hz
   refine (h.nil A w).mono fun ex w' ⟨h1,h2⟩=>⟨_,h1,h2,fun _=>⟨by simp [A1,zaa],rfl,?_⟩⟩
   refine ⟨fun i x hx=>by simp [A1,zaa] at hx,⟨by simp [A1,zaa],A,rfl⟩,by simp [A1,zaa]⟩
  | some b =>
   obtain ⟨_,⟨cap,cur,rfl,hc,h1,h2,h3⟩,_,hnS,cur',hc',h5,h6⟩:=hrow
   rw [zq] at *
   rw [hc] at hc'
   cases hc'
   have hblk:b < w.heap.size:=z6 hc
   obtain ⟨d,hd1,hds,hd2⟩:=zjn (S:=S) hc hlz h6
   have hcall:=h.run w S b cap d hS hnS (hd2 rfl) hblk (by omega)
   rw [hds] at hcall
   refine hcall.mono fun ex w' ⟨k1,d',n,os,⟨p1,_,p3⟩,k3,k4⟩=>?_
   subst k4
   have hds':d'.size=l.length:=by rw [p1,hds]
   have hext:∀ (a:Array (HdA w S)) (m:Nat),a.size=m→a.extract 0 m=a:=fun a m hm=>by subst hm;exact Array.extract_size
   rw [hext d' _ hds',hext d _ hds] at p3
   have hys:d'.toList.map lstA=zaa l:=by
    refine zgX (by rw [← hd1];exact p3.map _) ?_
    rw [List.pairwise_map,List.pairwise_iff_getElem]
    intro i j hi hj hij
    have hi':i < d'.size:=by simpa using hi
    have hj':j < d'.size:=by simpa using hj
    have:=k3 i j (Nat.zero_le _) hij (by omega)
    rw [getElem!_pos d' j hj',getElem!_pos d' i hi'] at this
    exact this
   have hnew:(sortWorldK encA 2 w b 0 n d' os).heap[b]? = _:=zbZ (enc:=id) (n:=n) (os:=os) (flatK encA 2 d') hc
   have hcsz:(putCells id 0 (flatK encA 2 d') cur).size=cur.size:=by simp [putCells]
   have h5':l.length * 2≤cur.size:=h5
   have hput:=putA (T:=T) hS hnS hc d' n os d'.size (by omega) (Nat.le_refl _)
   rw [show d'.toList.take d'.size=d'.toList by rw [show d'.size=d'.toList.length by simp,List.take_length],hys] at hput
   refine ⟨_,k1,zjp hc d' n os,fun _=>⟨by rw [zq,zq,hsl],rfl,zfZ _,?_,Nat.zero_le _,hnS,_,hnew,by rw [zq,hsl,hcsz];exact h5',hput⟩⟩
   rw [zq,hsl]
   exact ⟨cap,_,rfl,hnew,h1,h2,by rw [hcsz];exact h3⟩
theorem zdv (zs:List Atom):(Lib.compact zs).length≤zs.length:=by
 unfold Lib.compact Lib.compactUpTo
 rw [List.length_map]
 exact Nat.le_trans (List.length_filter_le _ _) (by simp)
theorem zgC (h:CompAC P fs g) {args:Args} {r:Res} (hr:zjJ g args=some r):zax P G fs args r∧∀ k e sz xs rest,args=zak::.d (.int k e)::.d (.list sz xs)::rest→∀ e':Nat,e=e'→RawC P fs e' sz xs rest r:=by
 obtain ⟨⟨e0,l⟩,hra,hr⟩:=Option.bind_eq_some_iff.1 hr
 cases hr
 refine ⟨?_,fun k e sz xs rest hargs e' he=>?_⟩
 ·obtain ⟨_,_,rfl⟩:=zbj hra
  exact plain_raw'
 ·subst hargs
  obtain ⟨rfl,rfl,rfl,h4,hlen,hlz⟩:=zcm hra
  simp only at h4 hlen hlz
  subst he h4
  refine Or.inl fun w S T mo u vs hS hT hrow hl=>?_
  obtain rfl:=zea hl
  simp only [Int.toNat_natCast]
  have hsl:=zdv l
  cases mo with
  | none =>
   obtain ⟨_,⟨_,A,rfl⟩,hn⟩:=hrow
   have hz:l=[]:=by simpa [A1] using hn
   subst hz
   refine (h.nil A 0 w).mono fun ex w' ⟨h1,h2⟩=>⟨_,h1,by subst h2;exact Below.refl _ _,fun _=>?_⟩
   exact ⟨fun i x hx=>by simp [A1,Lib.compact,Lib.compactUpTo] at hx,⟨by simp [A1,Lib.compact,Lib.compactUpTo],A,rfl⟩,by simp [A1,Lib.compact,Lib.compactUpTo]⟩
  | some b =>
   obtain ⟨_,⟨cap,cur,rfl,hc,h1,h2,h3⟩,_,hnS,cur',hc',h5,h6⟩:=hrow
   rw [zq] at *
   rw [hc] at hc'
   cases hc'
   have hblk:b < w.heap.size:=z6 hc
   obtain ⟨d,hd1,hds,hd2⟩:=zjn (S:=S) hc hlz h6
   have hcall:=h.run w S b cap d hS hnS (hd2 rfl) hblk (by omega) (by have h1:l.length≤cap:=h1;omega)
   rw [hds] at hcall
   refine hcall.mono fun ex w' ⟨dk,kk,n,os,k1,k2,k3,k4,k5⟩=>?_
   rw [hd1] at k5
   subst k3
   have hnew:(sortWorldK encA 2 w b 0 n dk os).heap[b]? = _:=zbZ (enc:=id) (n:=n) (os:=os) (flatK encA 2 dk) hc
   have hcsz:(putCells id 0 (flatK encA 2 dk) cur).size=cur.size:=by simp [putCells]
   have hkk:kk=(Lib.compact l).length:=by
    rw [← k5]
    simp only [List.length_map,List.length_take,Array.length_toList]
    omega
   have h5':l.length * 2≤cur.size:=h5
   have hput:=putA (T:=T) hS hnS hc dk n os kk (by omega) (by omega)
   rw [k5] at hput
   refine ⟨_,k1,zjp hc dk n os,fun _=>⟨zfZ _,?_,Nat.zero_le _,hnS,_,hnew,by rw [zq,hcsz];omega,hput⟩⟩
   rw [zq,hkk]
   have h1:l.length≤cap:=h1
   exact ⟨cap,_,rfl,hnew,by omega,h2,by rw [hcsz];exact h3⟩
theorem SortAC.ok (h:SortAC P fs g):PrimOk P G fs (zkg g):=⟨h.known,(fun args r hr=>(zgT h hr).1),(fun k e sz xs rest r hr e' he=>(zgT (G:=noG) h hr).2 k e sz xs rest rfl e' he),fun b k xs r hr=>by first | (cases hr;done) | (unfold zkg at hr;(first | (cases hr;done) | (split at hr<;>cases hr;done) | (cases xs<;>cases hr;done) | (simp at hr;done)))⟩
theorem CompAC.ok (h:CompAC P fs g):PrimOk P G fs (zjJ g):=⟨h.known,(fun args r hr=>(zgC h hr).1),(fun k e sz xs rest r hr e' he=>(zgC (G:=noG) h hr).2 k e sz xs rest rfl e' he),fun b k xs r hr=>by first | (cases hr;done) | (unfold zjJ at hr;(first | (cases hr;done) | (split at hr<;>cases hr;done) | (cases xs<;>cases hr;done) | (simp at hr;done)))⟩
end
end Ovi
namespace Ovi
open Go Go.Proofs Go.Sort Go.Lib
def SSA (l:List Atom):Prop:=l.Pairwise fun x y=>ltA x y=true
theorem zkP (x y:Atom):ltA x y=true∨x=y∨ltA y x=true:=by
 cases h1:ltA x y with
 | true=>exact .inl rfl
 | false =>
  cases h2:ltA y x with
  | true=>exact .inr (.inr rfl)
  | false=>exact .inr (.inl (zjf x y h1 h2))
theorem zlY {x y:Atom} (h:ltA x y=true):x≠y:=by
 rintro rfl
 rw [swoA.irrefl] at h;cases h
theorem zlX {x y:Atom} (h:ltA x y=true):ltA y x=false:=by
 cases h':ltA y x with
 | false=>rfl
 | true=>have:=swoA.trans _ _ _ h h';rw [swoA.irrefl] at this;cases this
theorem zkj:∀ {a b:List Atom},SSA a→SSA b→(∀ z,z∈a↔z∈b)→a=b
 | [],[],_,_,_=>rfl
 | [],y::b,_,_,h=>by have:=(h y).2 List.mem_cons_self;cases this
 | x::a,[],_,_,h=>by have:=(h x).1 List.mem_cons_self;cases this
 | x::a,y::b,ha,hb,h=>by
  have ha':=List.pairwise_cons.1 ha
  have hb':=List.pairwise_cons.1 hb
  have hxy:x=y:=by
   rcases List.mem_cons.1 ((h x).1 List.mem_cons_self) with e | hx
   ·exact e
   ·rcases List.mem_cons.1 ((h y).2 List.mem_cons_self) with e | hy
    ·exact e.symm
    ·have h1:=hb'.1 x hx
     have h2:=ha'.1 y hy
     rw [zlX h1] at h2;cases h2
  subst hxy
  rw [zkj ha'.2 hb'.2 fun z=>?_]
  constructor
  ·intro hz
   rcases List.mem_cons.1 ((h z).1 (List.mem_cons_of_mem _ hz)) with e | h'
   ·subst e;exact absurd rfl (zlY (ha'.1 z hz))
   ·exact h'
  ·intro hz
   rcases List.mem_cons.1 ((h z).2 (List.mem_cons_of_mem _ hz)) with e | h'
   ·subst e;exact absurd rfl (zlY (hb'.1 z hz))
   ·exact h'
theorem zg0 {α:Type} [DecidableEq α] [Inhabited α] (R:α→α→Prop) (d:List α) (hR:∀ i j,i≤j→j < d.length→d.toArray[i]! ≠ d.toArray[j]! → R d.toArray[i]! d.toArray[j]!) (hmid:∀ i j m:Nat,i≤j→j≤m→m < d.length→d.toArray[i]! = d.toArray[m]! → d.toArray[j]! = d.toArray[m]!):(Lib.compact d).Pairwise R:=by
 have key:∀ m,m≤d.length→(Lib.compactUpTo d.toArray m).Pairwise R∧∀ x∈Lib.compactUpTo d.toArray m,∃ i,i < m∧x=d.toArray[i]! := by
  intro m
  induction m with
  | zero=>intro _;exact ⟨by simp [Lib.compactUpTo],fun x hx=>by simp [Lib.compactUpTo] at hx⟩
  | succ m ih =>
   intro hm
   obtain ⟨h1,h2⟩:=ih (by omega)
   rw [Lib.compactUpTo_succ]
   by_cases hk:Lib.keeps d.toArray m=true
   ·rw [if_pos hk]
    refine ⟨List.pairwise_append.2 ⟨h1,by simp,fun x hx y hy=>?_⟩,fun x hx=>?_⟩
    ·obtain ⟨i,hi,rfl⟩:=h2 x hx
     obtain rfl:=List.mem_singleton.1 hy
     refine hR i m (by omega) (by omega) fun he=>?_
     simp only [Lib.keeps,decide_eq_true_eq] at hk
     rcases hk with h0 | h0
     ·omega
     ·exact h0 (hmid i (m - 1) m (by omega) (by omega) (by omega) he).symm
    ·rcases List.mem_append.1 hx with hx | hx
     ·obtain ⟨i,hi,e⟩:=h2 x hx
      exact ⟨i,by omega,e⟩
     ·exact ⟨m,by omega,List.mem_singleton.1 hx⟩
   ·rw [if_neg hk]
    refine ⟨by simpa using h1,fun x hx=>?_⟩
    obtain ⟨i,hi,e⟩:=h2 x (by simpa using hx)
    exact ⟨i,by omega,e⟩
 have:=key d.length (Nat.le_refl _)
 exact this.1
theorem zd4 (l:List Atom):SSA (Lib.compact (zaa l)):=by
 have hs:=zfb l
 generalize zaa l=d at hs
 have hle:∀ i j,i≤j→j < d.length→ltA d.toArray[j]! d.toArray[i]! = false:=by
  intro i j hij hj
  rw [getElem!_pos _ i (by simp;omega),getElem!_pos _ j (by simp;omega)]
  simp only [List.getElem_toArray]
  rcases Nat.lt_or_eq_of_le hij with h | rfl
  ·exact List.pairwise_iff_getElem.1 hs i j (by omega) hj h
  ·exact swoA.irrefl _
 refine zg0 _ d (fun i j hij hj hne=>?_) (fun i j m h1 h2 h3 he=>?_)
 ·rcases zkP d.toArray[i]! d.toArray[j]! with h | h | h
  ·exact h
  ·exact absurd h hne
  ·rw [hle i j hij hj] at h;cases h
 ·have a:=hle i j h1 (by omega)
  have b:=hle j m h2 h3
  rw [he] at a
  exact zjf _ _ b a |>.symm▸rfl
theorem zj0 (zs:List Atom) (z:Atom):z∈Lib.compact zs↔z∈zs:=by
 unfold Lib.compact Lib.compactUpTo
 simp only [List.mem_map,List.mem_filter,List.mem_range]
 constructor
 ·rintro ⟨i,⟨hi,_⟩,rfl⟩
  rw [getElem!_pos _ i (by simpa using hi)]
  simp
 ·intro h
  obtain ⟨i,hi,e⟩:=List.mem_iff_getElem.1 h
  have key:∀ i,i < zs.length→∃ j,(j < zs.length∧Lib.keeps zs.toArray j=true)∧zs.toArray[j]! = zs.toArray[i]! := by
   intro i
   induction i with
   | zero=>intro h0;exact ⟨0,⟨h0,by simp [Lib.keeps]⟩,rfl⟩
   | succ i ih =>
    intro h0
    by_cases hk:Lib.keeps zs.toArray (i+1)=true
    ·exact ⟨i+1,⟨h0,hk⟩,rfl⟩
    ·have:zs.toArray[i+1]! = zs.toArray[i]! := by
      simp only [Lib.keeps,decide_eq_true_eq,not_or,Nat.add_sub_cancel,Decidable.not_not] at hk
      exact hk.2
     obtain ⟨j,h1,h2⟩:=ih (by omega)
     exact ⟨j,h1,by rw [h2,this]⟩
  obtain ⟨j,h1,h2⟩:=key i hi
  refine ⟨j,h1,?_⟩
  rw [h2,getElem!_pos _ i (by simpa using hi)]
  simpa using e
theorem znL {l:List Atom} {f:Atom} {k:Nat} (hs:SSA l) (hf:f ∉ l) (hlt:∀ j y,j < k→l[j]? = some y→ltA y f=true) (hge:∀ y,l[k]? = some y→ltA y f=false):SSA (l.take k++f::l.drop k):=by
 have hgt:∀ y∈l.drop k,ltA f y=true:=by
  intro y hy
  obtain ⟨j,hj⟩:=List.mem_iff_getElem?.1 hy
  rw [List.getElem?_drop] at hj
  have hyl:=List.mem_of_getElem? hj
  have hkl:k < l.length:=by have:=(List.getElem?_eq_some_iff.1 hj).1;omega
  have h0:=hge l[k] (List.getElem?_eq_getElem hkl)
  have hk:ltA f l[k]=true:=by
   rcases zkP l[k] f with h | h | h
   ·rw [h] at h0;cases h0
   ·exact absurd (h▸List.getElem_mem hkl) hf
   ·exact h
  cases j with
  | zero =>
   rw [Nat.add_zero,List.getElem?_eq_getElem hkl] at hj
   cases hj;exact hk
  | succ j =>
   have hjl:=(List.getElem?_eq_some_iff.1 hj).1
   have e:=(List.getElem?_eq_some_iff.1 hj).2
   have:=List.pairwise_iff_getElem.1 hs k (k+(j+1)) hkl hjl (by omega)
   rw [e] at this
   exact swoA.trans _ _ _ hk this
 refine List.pairwise_append.2 ⟨List.Pairwise.sublist (List.take_sublist k l) hs,List.pairwise_cons.2 ⟨hgt,List.Pairwise.sublist (List.drop_sublist k l) hs⟩,fun x hx y hy=>?_⟩
 obtain ⟨j,hj⟩:=List.mem_iff_getElem?.1 hx
 have hjk:j < k:=by
  have:=(List.getElem?_eq_some_iff.1 hj).1
  rw [List.length_take] at this;omega
 rw [List.getElem?_take_of_lt hjk] at hj
 have hxf:=hlt j x hjk hj
 rcases List.mem_cons.1 hy with rfl | hy
 ·exact hxf
 ·exact swoA.trans _ _ _ hxf (hgt y hy)
theorem znF {α:Type} {l:List α} {f z:α} (k:Nat):z∈l.take k++f::l.drop k↔z∈l∨z=f:=by
 rw [List.mem_append,List.mem_cons]
 have:z∈l↔z∈l.take k∨z∈l.drop k:=by rw [← List.mem_append,List.take_append_drop]
 rw [this]
 constructor
 ·rintro (h | h | h)
  ·exact .inl (.inl h)
  ·exact .inr h
  ·exact .inl (.inr h)
 ·rintro ((h | h) | h)
  ·exact .inl h
  ·exact .inr (.inr h)
  ·exact .inr (.inl h)
end Ovi
namespace Ovi
open Go Go.Proofs Go.RowKit Go.Lib
structure CloneKC (P:Program) (f:FuncId) (e sz:Nat):Prop where
 known:zaE P f
 pos:0 < sz
 run:∀ (b off n c:Nat) (news:List Value) (w:World),news.length=n * sz→n≤1099511627776→(∀ j u,news[j]? = some u→w.cell? ⟨b,off+j,none⟩=some u)→(∀ u∈news,u.oneCell'=true) →
  Calls P f #[.slice (some ⟨b,off,none⟩) n c] w fun ex w'=>∃ v',ex=.returned v'∧w'.ownsRow w.heap.size e sz v' n news∧Below w.heap.size w w'
def zf7 (e sz:Nat):Args→Option Res
 | [.d (.list sz' xs)]=>cond (Nat.beq sz' sz&&(Nat.ble 1 xs.length&&Nat.ble xs.length 1099511627776)) (some [(false,[.row e sz xs])]) none
 | _=>none
theorem RD.one {w:World} {S T:Nat→Prop} {v:Value} {x:D} (h:RD w S T v x):v.oneCell'=true:=by cases h<;>rfl
theorem zdt {P:Program} {G:Gd} {f:FuncId} {e sz:Nat} (h:CloneKC P f e sz) {args:Args} {r:Res} (hr:zf7 e sz args=some r):zax P G f args r∧zco args=false:=by
 unfold zf7 at hr
 split at hr
 ·rename_i sz' xs
  cases hb:(Nat.beq sz' sz&&(Nat.ble 1 xs.length&&Nat.ble xs.length 1099511627776)) with
  | false=>rw [hb] at hr;cases hr
  | true =>
   rw [hb] at hr
   cases hr
   rw [Bool.and_eq_true,Bool.and_eq_true] at hb
   obtain ⟨hb0,hb1,hb2⟩:=hb
   obtain rfl:=Nat.eq_of_beq_eq_true hb0
   have hb1:=Nat.le_of_ble_eq_true hb1
   have hb2:=Nat.le_of_ble_eq_true hb2
   have hpos:=h.pos
   refine ⟨?_,rfl⟩
   intro w S T vs hS hT hl _
   obtain ⟨u,hu,hrd⟩:=hl.2 0 _ rfl
   have hvs:vs=#[u]:=by
    have h1:vs.size=1:=hl.1
    apply Array.ext_getElem?
    intro i
    cases i with
    | zero=>rw [hu];rfl
    | succ i=>rw [Array.getElem?_eq_none (by omega),Array.getElem?_eq_none (by simp)]
   subst hvs
   have hrd:RD w S T u (.list sz' xs):=hrd
   cases hrd with
   | list A cap _ _ g h1 h3 h4 h5 h6 =>
    have hcd:∀ i c,i < xs.length→c < sz'→∃ x,zk xs i c=some x:=by
     intro i c hi hc
     have hl3:=h3 i _ (List.getElem?_eq_getElem hi)
     exact ⟨xs[i][c]'(by omega),by simp [zk,hi,List.getElem?_eq_getElem (show c < (xs[i]).length by omega)]⟩
    obtain ⟨x0,hx0⟩:=hcd 0 0 hb1 hpos
    obtain ⟨ad,hA,hSad,hc0⟩:=h4 0 0 _ hx0
    subst hA
    obtain ⟨b,off,spot⟩:=ad
    have hspot:spot=none:=by simpa [Addr.add] using World.cell?_spot hc0
    subst hspot
    have news:List Value:=[]
    clear news
    generalize hnews:((List.range (xs.length * sz')).map fun t=>g (t / sz') (t % sz'))=news
    have hnl:news.length=xs.length * sz':=by rw [← hnews];simp
    have hget:∀ t u,news[t]? = some u→t < xs.length * sz'∧u=g (t / sz') (t % sz'):=by
     intro t u ht
     have hlt:=(List.getElem?_eq_some_iff.1 ht).1
     rw [hnl] at hlt
     rw [← hnews] at ht
     simp [hlt] at ht
     exact ⟨hlt,ht.symm⟩
    have hdm:∀ t,t < xs.length * sz'→t / sz' < xs.length∧t % sz' < sz'∧t / sz' * sz'+t % sz'=t:=fun t ht =>
     ⟨(Nat.div_lt_iff_lt_mul hpos).2 ht,Nat.mod_lt _ hpos,by have:=Nat.div_add_mod t sz';rw [Nat.mul_comm] at this;exact this⟩
    refine (h.run b off xs.length cap news w hnl hb2 (fun t u ht=>?_) (fun u hu=>?_)).mono fun ex w' ⟨v,k1,k2,k3⟩=>?_
    ·obtain ⟨hlt,rfl⟩:=hget t u ht
     obtain ⟨d1,d2,d3⟩:=hdm t hlt
     obtain ⟨x,hx⟩:=hcd _ _ d1 d2
     obtain ⟨ad,e1,_,e3⟩:=h4 _ _ _ hx
     cases e1
     rw [d3,add_at] at e3
     exact e3
    ·obtain ⟨t,ht⟩:=List.mem_iff_getElem?.1 hu
     obtain ⟨hlt,rfl⟩:=hget t u ht
     obtain ⟨d1,d2,d3⟩:=hdm t hlt
     obtain ⟨x,hx⟩:=hcd _ _ d1 d2
     exact (h5 _ _ _ hx).one
    ·subst k1
     have hst:Stab S w w':=fun k hk=>k3.block k (hS k hk)
     have htt:Stab T w w':=fun k hk=>k3.block k (hT k hk)
     have hrow:∃ mo,rowC w' S T w.heap.size mo e sz' xs v:=by
      obtain ⟨_,k2⟩:=k2
      rcases k2 with ⟨rfl,h0⟩ | ⟨q,cap',cur,rfl,hb',hg,q1,q2,q3,q4⟩
      ·omega
      ·refine ⟨some q,h3,⟨cap',cur,rfl,hg,q1,q2,q3⟩,hb',fun hh=>by have:=hS q hh;omega,cur,hg,?_,fun i c x hx=>?_⟩
       ·have:=congrArg List.length q4
        rw [List.length_take,hnl] at this
        have hcl:cur.toList.length=cur.size:=rfl
        omega
       ·obtain ⟨row,hr1,hr2⟩:=zav hx
        have hi:=(List.getElem?_eq_some_iff.1 hr1).1
        have hc:=(List.getElem?_eq_some_iff.1 hr2).1
        rw [h3 _ _ hr1] at hc
        have hlt:i * sz'+c < xs.length * sz':=by
         have:=Nat.mul_le_mul_right sz' (show i+1≤xs.length from hi)
         rw [Nat.add_mul,Nat.one_mul] at this
         omega
        refine ⟨h6 _ _ _ hx,g i c,?_,RD.mono hst htt (fun _ h=>h) (fun _ h=>h) (h5 _ _ _ hx)⟩
        have:(cur.toList.take (xs.length * sz'))[i * sz'+c]? = news[i * sz'+c]? := by rw [q4]
        rw [List.getElem?_take_of_lt hlt] at this
        rw [← Array.getElem?_toList,this,← hnews]
        have e1:(i * sz'+c) / sz'=i:=by rw [Nat.mul_comm,Nat.mul_add_div hpos,Nat.div_eq_of_lt hc,Nat.add_zero]
        have e2:(i * sz'+c) % sz'=c:=by rw [Nat.mul_comm,Nat.mul_add_mod,Nat.mod_eq_of_lt hc]
        simp [hlt,e1,e2]
     obtain ⟨mo,hrow⟩:=hrow
     refine ⟨v,S,fun _ _=>mo,rfl,k3,fun _ h=>h,fun _ h=>.inl h,⟨⟨[v],rfl,rfl,fun i x hx=>?_⟩,fun i j i' j' b h1 h2 _ _=>?_⟩,frC.none rfl⟩
     ·cases i with
      | zero=>cases hx;exact ⟨v,rfl,_,rfl,hrow⟩
      | succ i=>simp at hx
     ·have key:∀ i j,zZ (zR [(false,[.row e sz' xs])] i j)=true→i=0∧j=0:=by
       intro i j hij
       cases i with
       | zero =>
        cases j with
        | zero=>exact ⟨rfl,rfl⟩
        | succ j=>simp [zR,zZ] at hij
       | succ i=>simp [zR,zZ] at hij
      obtain ⟨rfl,rfl⟩:=key i j h1
      obtain ⟨rfl,rfl⟩:=key i' j' h2
      exact ⟨rfl,rfl⟩
 ·cases hr
theorem CloneKC.ok {P:Program} {G:Gd} {f:FuncId} {e sz:Nat} (h:CloneKC P f e sz):PrimOk P G f (zf7 e sz):=⟨h.known,(fun args r hr=>(zdt h hr).1),(fun k e0 sz0 xs rest r hr e' he=>by have:=(zdt (G:=noG) h hr).2;cases this),fun b k xs r hr=>by first | (cases hr;done) | (unfold zf7 at hr;(first | (cases hr;done) | (split at hr<;>cases hr;done) | (cases xs<;>cases hr;done) | (simp at hr;done)))⟩
end Ovi
namespace Ovi
open Go Go.Proofs Go.RowKit Go.Lib Go.Shelf
section
variable {P:Program} {ρ:Ren}
set_option maxHeartbeats 2000000 in
set_option maxRecDepth 100000 in
theorem zkn (L:SlLaysE0.n41 P ρ) (i0:TypeInfo) (z:Value) (size bytes:Nat) (hi:P.info? (ρ.t 23)=some i0) (hz0:i0.zero=some z) (hz1:i0.size=size) (hz2:i0.bytes=bytes) (hzs:z.cells.size=size) (hsz:0 < size)
  (z23:∀ w,(Go.sizeOf (ρ.t 23)).run P w=.ok size w) (a:Addr) (c:Nat) (w:World) :
  Calls P (ρ.f 41) #[.slice (some a) 0 c] w fun e w'=>∃ v',e=.returned v'∧w'.ownsRow w.heap.size (ρ.t 23) size v' 0 []∧Below w.heap.size w w':=by
 have mixed:=L.mixed;have t4:=L.t4;have a4:=L.a4;have z4:=L.z4;have v4:=L.v4;have t22:=L.t22;have a22:=L.a22;have z22:=L.z22;have v22:=L.v22
 have q22:∀ (w:World) (a:Option Addr) (n c n' c':Nat),(Go.binOp .eql (ρ.t 22) (.slice a n c) (.slice none n' c')).run P w=.ok (.bool a.isNone) w:=fun w a n c n' c'=>Lib.run_eql_slice_nil w _ _ a n c n' c' L.t22
 have u22:∀ w,Sem.run P (underlying (ρ.t 22)) w=.ok (TypeDesc.slice (ρ.t 23)) w:=run_underlying t22
 obtain ⟨_,_,FG⟩:=L.f41
 go_enter FG,SlBodyN.n41_ntmps ρ
 go_wp2_with (at_builtin;refine wpList_append_own _ rfl _ _ (ρ.t 22) rfl w.heap.size (ρ.t 23) i0 z size bytes t22 hi hz0 hz1 hz2 hzs hsz _ _ _ rfl (World.ownsRow_made w #[] 0 (Nat.le_refl _) (Nat.zero_le _) (by simp)) a 0 c [] rfl (by simp) (by intro j u hj;simp at hj) (by intro u hu;cases hu) (by unfold maxLen;omega) (by omega) (by simp) ?_)
 intro v' w1 hown hgrow hnil
 go_wp2
 go_ret
 refine ⟨v',rfl,by simpa using hown,?_⟩
 exact ((Below.refl _ w).alloc (Nat.le_refl _) _).grown hgrow (by simp) (by intro k hk;simp [Value.ownBlock] at hk;omega)
end
structure CloneZC (P:Program) (f:FuncId) (e sz:Nat):Prop where
 base:CloneKC P f e sz
 nil:∀ (n c:Nat) (w:World),Calls P f #[.slice none n c] w fun ex w'=>ex=.returned (.slice none 0 0)∧w'=w
 zero:∀ (a:Addr) (c:Nat) (w:World),Calls P f #[.slice (some a) 0 c] w fun ex w'=>∃ v',ex=.returned v'∧w'.ownsRow w.heap.size e sz v' 0 []∧Below w.heap.size w w'
def zcB (e sz:Nat):Args→Option Res
 | [.d (.list sz' xs)]=>cond (Nat.beq sz' sz&&Nat.ble xs.length 1099511627776) (some [(false,[.row e sz xs])]) none
 | _=>none
theorem zma {w':World} {S T:Nat→Prop} {B e sz:Nat} {v:Value} (h:w'.ownsRow B e sz v 0 []) (hS:∀ k,S k→k < B):∃ mo,rowC w' S T B mo e sz [] v:=by
 obtain ⟨_,h⟩:=h
 rcases h with ⟨rfl,_⟩ | ⟨g,cap,cur,rfl,hb,hg,h1,h2,h3,h4⟩
 ·exact ⟨none,fun i x h=>by simp at h,⟨rfl,none,rfl⟩,rfl⟩
 ·exact ⟨some g,fun i x h=>by simp at h,⟨cap,cur,rfl,hg,h1,h2,h3⟩,hb,fun hh=>by have:=hS g hh;omega,cur,hg,by simp,fun i c x h=>by simp [zk] at h⟩
theorem zkS {w':World} {S T:Nat→Prop} {B e sz:Nat} {mo:Option Nat} {xs:Ovi.Rows} {v:Value} (h:rowC w' S T B mo e sz xs v):resC w' S T B (fun _ _=>mo) v [(false,[.row e sz xs])]:=by
 refine ⟨⟨[v],rfl,rfl,fun i x hx=>?_⟩,fun i j i' j' b h1 h2 _ _=>?_⟩
 ·cases i with
  | zero=>cases hx;exact ⟨v,rfl,_,rfl,h⟩
  | succ i=>simp at hx
 ·have key:∀ i j,zZ (zR [(false,[.row e sz xs])] i j)=true→i=0∧j=0:=by
   intro i j hij
   cases i with
   | zero =>
    cases j with
    | zero=>exact ⟨rfl,rfl⟩
    | succ j=>simp [zR,zZ] at hij
   | succ i=>simp [zR,zZ] at hij
  obtain ⟨rfl,rfl⟩:=key i j h1
  obtain ⟨rfl,rfl⟩:=key i' j' h2
  exact ⟨rfl,rfl⟩
theorem zfp {P:Program} {G:Gd} {f:FuncId} {e sz:Nat} (h:CloneZC P f e sz) {args:Args} {r:Res} (hr:zcB e sz args=some r):zax P G f args r∧zco args=false:=by
 unfold zcB at hr
 split at hr
 ·rename_i sz' xs
  cases hb:(Nat.beq sz' sz&&Nat.ble xs.length 1099511627776) with
  | false=>rw [hb] at hr;cases hr
  | true =>
   rw [hb] at hr
   cases hr
   by_cases hx:xs=[]
   ·subst hx
    refine ⟨?_,rfl⟩
    intro w S T vs hS hT hl _
    obtain ⟨u,hu,hrd⟩:=hl.2 0 _ rfl
    have hvs:vs=#[u]:=by
     have h1:vs.size=1:=hl.1
     apply Array.ext_getElem?
     intro i
     cases i with
     | zero=>rw [hu];rfl
     | succ i=>rw [Array.getElem?_eq_none (by omega),Array.getElem?_eq_none (by simp)]
    subst hvs
    have hrd:RD w S T u (.list sz' []):=hrd
    cases hrd with
    | list A cap _ _ g h1 h3 h4 h5 h6 =>
     cases A with
     | none =>
      refine (h.nil 0 cap w).mono fun ex w' ⟨k1,k2⟩=>?_
      subst k1 k2
      exact ⟨_,S,fun _ _=>none,rfl,Below.refl _ _,fun _ h=>h,fun _ h=>.inl h,zkS ⟨fun i x h=>by simp at h,⟨rfl,none,rfl⟩,rfl⟩,frC.none rfl⟩
     | some a =>
      refine (h.zero a cap w).mono fun ex w' ⟨v',k1,k2,k3⟩=>?_
      subst k1
      obtain ⟨mo,hm⟩:=zma (T:=T) k2 hS
      exact ⟨_,S,fun _ _=>mo,rfl,k3,fun _ h=>h,fun _ h=>.inl h,zkS hm,frC.none rfl⟩
   ·refine zdt h.base ?_
    rw [Bool.and_eq_true] at hb
    show cond (Nat.beq sz' sz&&(Nat.ble 1 xs.length&&Nat.ble xs.length 1099511627776)) (some [(false,[RL.row e sz xs])]:Option Res) none=_
    rw [hb.1,hb.2,show Nat.ble 1 xs.length=true from Nat.ble_eq_true_of_le (List.length_pos_iff.2 hx)]
    rfl
 ·cases hr
theorem CloneZC.ok {P:Program} {G:Gd} {f:FuncId} {e sz:Nat} (h:CloneZC P f e sz):PrimOk P G f (zcB e sz):=⟨h.base.known,(fun args r hr=>(zfp h hr).1),(fun k e0 sz0 xs rest r hr e' he=>by have:=(zfp (G:=noG) h hr).2;cases this),fun b k xs r hr=>by first | (cases hr;done) | (unfold zcB at hr;(first | (cases hr;done) | (split at hr<;>cases hr;done) | (cases xs<;>cases hr;done) | (simp at hr;done)))⟩
end Ovi
namespace Ovi
open Go Go.Proofs Go.RowKit Go.Sort Go.Lib
theorem zj5 {α:Type} {l' l:List α} (h:l'.Perm l):∃ π:Nat→Nat,(∀ i i',i < l'.length→i' < l'.length→π i=π i'→i=i')∧∀ i,i < l'.length→l'[i]? = l[π i]? ∧ π i < l.length:=by
 induction h with
 | nil=>exact ⟨fun i=>i,fun i i' h=>by simp at h,fun i h=>by simp at h⟩
 | cons x h ih =>
  obtain ⟨π,h1,h2⟩:=ih
  refine ⟨fun i=>match i with | 0=>0 | i+1=>π i+1,fun i i' hi hi' he=>?_,fun i hi=>?_⟩
  ·match i,i' with
   | 0,0=>rfl
   | 0,i'+1=>simp at he
   | i+1,0=>simp at he
   | i+1,i'+1 =>
    simp only [Nat.add_right_cancel_iff] at he
    rw [h1 i i' (by simpa using hi) (by simpa using hi') he]
  ·match i with
   | 0=>simp
   | i+1 =>
    have:=h2 i (by simpa using hi)
    simpa using this
 | swap x y l =>
  refine ⟨fun i=>match i with | 0=>1 | 1=>0 | i+2=>i+2,fun i i' hi hi' he=>?_,fun i hi=>?_⟩
  ·match i,i' with
   | 0,0=>rfl
   | 1,1=>rfl
   | 0,1=>simp at he
   | 1,0=>simp at he
   | 0,i'+2=>simp at he
   | 1,i'+2=>simp at he
   | i+2,0=>simp at he
   | i+2,1=>simp at he
   | i+2,i'+2=>simpa using he
  ·match i with
   | 0=>simp
   | 1=>simp
   | i+2=>exact ⟨rfl,by simpa using hi⟩
 | trans h1 h2 ih1 ih2 =>
  obtain ⟨π,a1,a2⟩:=ih1
  obtain ⟨ρ,b1,b2⟩:=ih2
  refine ⟨fun i=>ρ (π i),fun i i' hi hi' he=>a1 i i' hi hi' (b1 _ _ (a2 i hi).2 (a2 i' hi').2 he),fun i hi=>?_⟩
  obtain ⟨e1,e2⟩:=a2 i hi
  obtain ⟨e3,e4⟩:=b2 _ e2
  exact ⟨e1.trans e3,e4⟩
def zki (g:Nat) (args:Args):Option Res:=(zbW g args).bind fun p=>some [(false,[.frow p.1 1 1 (LL (zM p.2))])]
theorem zgV {P:Program} {G:Gd} {fs g:FuncId} (h:SortFC P fs g) {args:Args} {r:Res} (hr:zki g args=some r):zax P G fs args r∧∀ k e sz xs rest,args=zak::.d (.int k e)::.d (.list sz xs)::rest→∀ e':Nat,e=e'→RawC P fs e' sz xs rest r:=by
 obtain ⟨⟨e0,l⟩,hra,hr⟩:=Option.bind_eq_some_iff.1 hr
 cases hr
 refine ⟨?_,fun k e sz xs rest hargs e' he=>?_⟩
 ·obtain ⟨_,_,rfl⟩:=zbc hra
  exact plain_raw'
 ·subst hargs
  obtain ⟨rfl,rfl,rfl,h4,hlen,hlz⟩:=zb8 hra
  simp only at h4 hlen hlz
  subst he h4
  refine Or.inl fun w S T mo u vs hS hT hrow hl=>?_
  have hvs:vs=#[.func (.func g) #[] #[]]:=by
   obtain ⟨u0,hu0,hrd⟩:=hl.2 0 _ rfl
   have hrd:RD w S T u0 (.fn g []):=hrd
   have h1:vs.size=1:=hl.1
   have h2:u0=.func (.func g) #[] #[]:=by
    generalize hc:([]:Rows)=CS at hrd
    cases hrd with
    | fn f vs' caps g' k1 k4 k5 =>
     subst hc
     rw [Array.eq_empty_of_size_eq_zero k1]
   subst h2
   apply Array.ext_getElem?
   intro i
   cases i with
   | zero=>rw [hu0];rfl
   | succ i=>rw [Array.getElem?_eq_none (by omega),Array.getElem?_eq_none (by simp)]
  subst hvs
  simp only [Int.toNat_natCast]
  have hsl:=zb9 l
  cases mo with
  | none =>
   obtain ⟨_,⟨_,A,rfl⟩,hn⟩:=hrow
   have hz:l=[]:=by simpa [LL] using hn
   subst hz
   refine (h.nil A w).mono fun ex w' ⟨h1,h2⟩=>⟨_,h1,h2,fun _=>⟨⟨by simp [LL,zM],rfl,?_⟩,fun b cur cur' hb=>by cases hb⟩⟩
   refine ⟨fun i x hx=>by simp [LL,zM] at hx,⟨by simp [LL,zM],A,rfl⟩,by simp [LL,zM]⟩
  | some b =>
   obtain ⟨_,⟨cap,cur,rfl,hc,h1,h2,h3⟩,_,hnS,cur',hc',h5,h6⟩:=hrow
   rw [zQ] at *
   rw [hc] at hc'
   cases hc'
   have hblk:b < w.heap.size:=z6 hc
   obtain ⟨dl,hd1,hdl⟩:=mkH (w:=w) (S:=S) (cur:=cur) l 0 fun i zs hz=>by
    obtain ⟨_,v,hv,hrd⟩:=h6 i 0 _ (zc1 hz)
    rw [Nat.mul_one,Nat.add_zero] at hv
    exact ⟨v,by rw [Nat.zero_add];exact hv,RD.ri hrd,hlz _ (List.mem_of_getElem? hz)⟩
   obtain ⟨d,rfl⟩:∃ d:Array (HdL w S),dl=d.toList:=⟨dl.toArray,rfl⟩
   have hd2:Holds encH w b 0 d:=by
    intro j hj
    rw [getElem!_pos d j hj]
    refine ⟨?_,by simp [World.frozen?, hc]⟩
    simp only [World.cell?, hc,Option.isSome_none,Bool.false_eq_true,if_false]
    exact hdl j _ (by simp [hj])
   have hds:d.size=l.length:=by rw [← hd1];simp
   have hcall:=h.run w S b cap d hS hnS hd2 hblk (by omega)
   rw [hds] at hcall
   refine hcall.mono fun ex w' ⟨k1,d',n,os,⟨p1,_,p3⟩,k3,k4⟩=>?_
   subst k4
   have hds':d'.size=l.length:=by rw [p1,hds]
   have hext:∀ (a:Array (HdL w S)) (m:Nat),a.size=m→a.extract 0 m=a:=fun a m hm=>by subst hm;exact Array.extract_size
   rw [hext d' _ hds',hext d _ hds] at p3
   have hys:d'.toList.map lstH=zM l:=by
    refine zh0 (by rw [← hd1];exact p3.map _) ?_
    rw [List.pairwise_map,List.pairwise_iff_getElem]
    intro i j hi hj hij
    have hi':i < d'.size:=by simpa using hi
    have hj':j < d'.size:=by simpa using hj
    have:=k3 i j (Nat.zero_le _) hij (by omega)
    rw [getElem!_pos d' j hj',getElem!_pos d' i hi'] at this
    exact this
   have hnew:=zbZ (enc:=encH) (n:=n) (os:=os) d' hc
   have hcsz:(putCells encH 0 d' cur).size=cur.size:=by simp [putCells]
   have hst:=zcy (enc:=encH) (n:=n) (os:=os) d' hS hnS
   refine ⟨_,k1,⟨cur,_,hc,hcsz,rfl,rfl,rfl,by simp [sortWorld,grow,putRow,mapBlock,Sort.ahead,zag],fun k hk=>?_⟩,fun _=>⟨⟨by rw [zQ,zQ,hsl],rfl,zdf _,?_,Nat.zero_le _,hnS,_,hnew,by rw [zQ,hsl,hcsz];omega,fun i c x hx=>?_⟩,?_⟩⟩
   ·have hk:k < w.heap.size:=by simpa using hk
    by_cases hkb:k=b
    ·subst hkb
     rw [zaH hblk,hnew]
    ·rw [zaI hkb]
     exact zcH _ hk hkb
   ·rw [zQ,hsl]
    exact ⟨cap,_,rfl,hnew,h1,h2,by rw [hcsz];omega⟩
   ·obtain ⟨rfl,zs,hz,rfl⟩:=zbx hx
    have hi:i < d'.size:=by
     have:=(List.getElem?_eq_some_iff.1 hz).1
     omega
    refine ⟨rfl,encH d'[i],?_,?_⟩
    ·have h5':l.length * 1≤cur.size:=h5
     have hic:i < cur.size:=by omega
     simp only [Nat.mul_one,Nat.add_zero,putCells,Array.getElem?_mapIdx]
     rw [Array.getElem?_eq_getElem hic]
     simp [hi]
    ·have:lstH d'[i]=zs:=by
      rw [← hys] at hz
      simpa [hi] using hz
     rw [← this]
     exact RI.rd (RI.stab d'[i].h hst)
   ·intro b1 c1 c2 hb1 hc1 hc2
    cases hb1
    rw [hc] at hc1
    cases hc1
    rw [hnew] at hc2
    cases hc2
    obtain ⟨π,q1,q2⟩:=zj5 p3
    rw [zQ,hsl]
    refine ⟨π,fun i i' hi hi'=>q1 i i' (by simpa [hds'] using hi) (by simpa [hds'] using hi'),fun i hi c x hx=>?_⟩
    obtain ⟨rfl,zs,hz,rfl⟩:=zbx hx
    have hi2:i < d'.size:=by omega
    obtain ⟨e1,e2⟩:=q2 i (by simpa using hi2)
    have hp2:π i < d.size:=by simpa using e2
    have e3:d'[i]=d[π i]:=by simpa [hi2,hp2] using e1
    have e4:lstH d'[i]=zs:=by
     rw [← hys] at hz
     simpa [hi2] using hz
    have e5:l[π i]? = some zs:=by
     rw [← hd1,List.getElem?_map,Array.getElem?_toList,Array.getElem?_eq_getElem hp2,Option.map_some,← e3,e4]
    refine ⟨zc1 e5,.inl ?_⟩
    have g1:=hdl (π i) d[π i] (by simp [hp2])
    have h5':l.length * 1≤cur.size:=h5
    have hic:i < cur.size:=by omega
    rw [Nat.zero_add] at g1
    simp only [Nat.mul_one,Nat.add_zero,putCells,Array.getElem?_mapIdx]
    rw [Array.getElem?_eq_getElem hic,g1]
    simp [hi2,e3]
theorem SortFC.okG {P:Program} {G:Gd} {f g:FuncId} (h:SortFC P f g):PrimOk P G f (zki g):=⟨h.known,(fun args r hr=>(zgV h hr).1),(fun k e sz xs rest r hr e' he=>(zgV (G:=noG) h hr).2 k e sz xs rest rfl e' he),fun b k xs r hr=>by first | (cases hr;done) | (unfold zki at hr;(first | (cases hr;done) | (split at hr<;>cases hr;done) | (cases xs<;>cases hr;done) | (simp at hr;done)))⟩
end Ovi
namespace Ovi
open Go Go.Proofs Go.RowKit Go.Sort Go.Lib
def zjL (g:Nat) (args:Args):Option Res:=(zbW g args).bind fun p=>cond (decide (Lib.compact p.2).Nodup) (some [(false,[.frow p.1 1 1 (LL (Lib.compact p.2))]),(true,[])]) none
structure CompFI (P:Program) (f g:FuncId):Prop where
 known:zaE P f
 run:∀ (w:World) (S:Nat→Prop) (blk cap:Nat) (d:Array (HdL w S)),(∀ k,S k→k < w.heap.size)→¬ S blk→Holds encH w blk 0 d→blk < w.heap.size→d.size < 4611686018427387904→d.size≤cap →
  Calls P f #[.slice (some ⟨blk,0,none⟩) d.size cap,.func (.func g) #[] #[]] w fun e w'=>∃ (dk:Array (HdL w S)) (q kk:Nat),e=.returned (.slice (some ⟨blk,0,none⟩) kk cap)∧dk.size=d.size∧w'=putRow encH (Sort.ahead w q) blk 0 dk∧kk≤d.size∧(dk.toList.take kk).map lstH=Lib.compact (d.toList.map lstH)∧∀ h∈dk.toList,h∈d.toList∨lstH h=[]
 nil:∀ (A:Option Addr) (cap:Nat) (w:World),Calls P f #[.slice A 0 cap,.func (.func g) #[] #[]] w fun e w'=>e=.returned (.slice A 0 cap)∧w'=w
theorem zgE {P:Program} {G:Gd} {fs g:FuncId} (h:CompFI P fs g) {args:Args} {r:Res} (hr:zjL g args=some r):zax P G fs args r∧∀ k e sz xs rest,args=zak::.d (.int k e)::.d (.list sz xs)::rest→∀ e':Nat,e=e'→RawC P fs e' sz xs rest r:=by
 obtain ⟨⟨e0,l⟩,hra,hr⟩:=Option.bind_eq_some_iff.1 hr
 cases hnd:decide (Lib.compact l).Nodup with
 | false=>simp only [hnd,cond_false] at hr;cases hr
 | true =>
 simp only [hnd,cond_true] at hr
 replace hnd:=of_decide_eq_true hnd
 cases hr
 refine ⟨?_,fun k e sz xs rest hargs e' he=>?_⟩
 ·obtain ⟨_,_,rfl⟩:=zbc hra
  exact plain_raw'
 ·subst hargs
  obtain ⟨rfl,rfl,rfl,h4,hlen,hlz⟩:=zb8 hra
  simp only at h4 hlen hlz
  subst he h4
  refine Or.inl fun w S T mo u vs hS hT hrow hl=>?_
  obtain rfl:=zea hl
  simp only [Int.toNat_natCast]
  have hsl:=zcn l
  cases mo with
  | none =>
   obtain ⟨_,⟨_,A,rfl⟩,hn⟩:=hrow
   have hz:l=[]:=by simpa [LL] using hn
   subst hz
   refine (h.nil A 0 w).mono fun ex w' ⟨h1,h2⟩=>⟨_,h1,by subst h2;exact Below.refl _ _,fun _=>⟨?_,fun b cur cur' hb=>by cases hb⟩⟩
   exact ⟨fun i x hx=>by simp [LL,Lib.compact,Lib.compactUpTo] at hx,⟨by simp [LL,Lib.compact,Lib.compactUpTo],A,rfl⟩,by simp [LL,Lib.compact,Lib.compactUpTo]⟩
  | some b =>
   obtain ⟨_,⟨cap,cur,rfl,hc,h1,h2,h3⟩,_,hnS,cur',hc',h5,h6⟩:=hrow
   rw [zQ] at *
   rw [hc] at hc'
   cases hc'
   have hblk:b < w.heap.size:=z6 hc
   obtain ⟨dl,hd1,hdl⟩:=mkH (w:=w) (S:=S) (cur:=cur) l 0 fun i zs hz=>by
    obtain ⟨_,v,hv,hrd⟩:=h6 i 0 _ (zc1 hz)
    rw [Nat.mul_one,Nat.add_zero] at hv
    exact ⟨v,by rw [Nat.zero_add];exact hv,RD.ri hrd,hlz _ (List.mem_of_getElem? hz)⟩
   obtain ⟨d,rfl⟩:∃ d:Array (HdL w S),dl=d.toList:=⟨dl.toArray,rfl⟩
   have hd2:Holds encH w b 0 d:=by
    intro j hj
    rw [getElem!_pos d j hj]
    refine ⟨?_,by simp [World.frozen?, hc]⟩
    simp only [World.cell?, hc,Option.isSome_none,Bool.false_eq_true,if_false]
    exact hdl j _ (by simp [hj])
   have hds:d.size=l.length:=by rw [← hd1];simp
   have hcall:=h.run w S b cap d hS hnS hd2 hblk (by omega) (by have h1:l.length≤cap:=h1;omega)
   rw [hds] at hcall
   refine hcall.mono fun ex w' ⟨dk,q,kk,k1,k2,k3,k4,k5,k6⟩=>?_
   rw [hd1] at k5
   have k3':w'=sortWorld encH w b 0 q dk #[]:=by rw [k3,sortWorld,grow_empty]
   subst k3'
   have hnew:=zbZ (enc:=encH) (n:=q) (os:=#[]) dk hc
   have hcsz:(putCells encH 0 dk cur).size=cur.size:=by simp [putCells]
   have hst:=zcy (enc:=encH) (n:=q) (os:=#[]) dk hS hnS
   have hkk:kk=(Lib.compact l).length:=by
    rw [← k5]
    simp only [List.length_map,List.length_take,Array.length_toList]
    omega
   have h5':l.length * 1≤cur.size:=h5
   refine ⟨_,k1,⟨cur,_,hc,hcsz,rfl,rfl,rfl,by simp [sortWorld,grow,putRow,mapBlock,Sort.ahead,zag],fun k hk=>?_⟩,fun _=>⟨⟨zdf _,?_,Nat.zero_le _,hnS,_,hnew,by rw [zQ,hcsz];omega,fun i c x hx=>?_⟩,?_⟩⟩
   ·have hk:k < w.heap.size:=by simpa using hk
    by_cases hkb:k=b
    ·subst hkb
     rw [zaH hblk,hnew]
    ·rw [zaI hkb]
     exact zcH _ hk hkb
   ·rw [zQ,hkk]
    have h1:l.length≤cap:=h1
    exact ⟨cap,_,rfl,hnew,by omega,h2,by rw [hcsz];omega⟩
   ·obtain ⟨rfl,zs,hz,rfl⟩:=zbx hx
    have hi0:=(List.getElem?_eq_some_iff.1 hz).1
    have hi:i < dk.size:=by omega
    refine ⟨rfl,encH dk[i],?_,?_⟩
    ·have hic:i < cur.size:=by omega
     simp only [Nat.mul_one,Nat.add_zero,putCells,Array.getElem?_mapIdx]
     rw [Array.getElem?_eq_getElem hic]
     simp [hi]
    ·have:lstH dk[i]=zs:=by
      rw [← k5,List.getElem?_map,List.getElem?_take_of_lt (by omega)] at hz
      simpa [hi] using hz
     rw [← this]
     exact RI.rd (RI.stab dk[i].h hst)
   ·intro b1 c1 c2 hb1 hc1 hc2
    cases hb1
    rw [hc] at hc1
    cases hc1
    rw [hnew] at hc2
    cases hc2
    have hget:∀ j (hj:j < kk),(Lib.compact l)[j]? = some (lstH dk[j]):=fun j hj=>by
     have hj2:j < dk.size:=by omega
     rw [← k5,List.getElem?_map,List.getElem?_take_of_lt hj]
     simp [hj2]
    have ex1:∀ j:Nat,∃ i:Nat,∀ hj:j < kk,l[i]? = some (lstH dk[j])∧(d[i]? = some dk[j]∨lstH dk[j]=[]):=by
     intro j
     by_cases hj:j < kk
     ·have hj2:j < dk.size:=by omega
      rcases k6 dk[j] (by simp) with hm | hm
      ·obtain ⟨i,hi,e⟩:=List.mem_iff_getElem.1 hm
       have hi':i < d.size:=by simpa using hi
       refine ⟨i,fun _=>⟨?_,.inl ?_⟩⟩
       ·refine (congrArg (fun z:BL=>z[i]?) hd1).symm.trans ?_
        show (List.map lstH d.toList)[i]? = _
        rw [List.getElem?_map,List.getElem?_eq_getElem hi,e]
        rfl
       ·rw [Array.getElem?_eq_getElem hi']
        simpa using e
      ·have hmem:lstH dk[j]∈l:=(zfE l _).1 (List.mem_of_getElem? (hget j hj))
       obtain ⟨i,hi,e⟩:=List.mem_iff_getElem.1 hmem
       exact ⟨i,fun _=>⟨by rw [List.getElem?_eq_getElem hi,e],.inr hm⟩⟩
     ·exact ⟨0,fun h=>absurd h hj⟩
    have ex2:=Classical.axiomOfChoice ex1
    obtain ⟨π,hπ⟩:=ex2
    rw [zQ,← hkk]
    refine ⟨π,fun i i' hi hi' he=>?_,fun i hi c x hx=>?_⟩
    ·have g1:=(hπ i hi).1
     have g2:=(hπ i' hi').1
     rw [he,g2] at g1
     have g3:=hget i hi
     have g4:=hget i' hi'
     replace g1:=Option.some.inj g1
     rw [g1] at g4
     exact (List.getElem?_inj (i:=i) (by rw [← hkk];exact hi) hnd).1 (g3.trans g4.symm)
    ·obtain ⟨rfl,zs,hz,rfl⟩:=zbx hx
     rw [hget i hi] at hz
     cases hz
     obtain ⟨q1,q2⟩:=hπ i hi
     refine ⟨zc1 q1,?_⟩
     rcases q2 with q2 | q2
     ·left
      have hpi:π i < d.size:=(Array.getElem?_eq_some_iff.1 q2).1
      have g1:=hdl (π i) dk[i] (by rw [← q2];simp)
      have hi2:i < dk.size:=by omega
      have hic:i < cur.size:=by omega
      rw [Nat.zero_add] at g1
      simp only [Nat.mul_one,Nat.add_zero,putCells,Array.getElem?_mapIdx]
      rw [Array.getElem?_eq_getElem hic,g1]
      simp [hi2]
     ·right
      rw [q2]
      exact ⟨1,rfl⟩
theorem CompFI.ok {P:Program} {G:Gd} {f g:FuncId} (h:CompFI P f g):PrimOk P G f (zjL g):=⟨h.known,(fun args r hr=>(zgE h hr).1),(fun k e sz xs rest r hr e' he=>(zgE (G:=noG) h hr).2 k e sz xs rest rfl e' he),fun b k xs r hr=>by first | (cases hr;done) | (unfold zjL at hr;obtain ⟨q,h1,_⟩:=Option.bind_eq_some_iff.1 hr;obtain ⟨e,xs',h2⟩:=zbc h1;cases h2)⟩
end Ovi
namespace Ovi
open Go Go.Proofs Go.RowKit Go.Sort Go.Lib
def zdm (g:Nat) (args:Args):Option Res:=(zbL g args).bind fun p=>some [(false,[.frow p.1 2 1 (A1 (zaa p.2))])]
def zdh (g:Nat) (args:Args):Option Res:=(zbL g args).bind fun p=>cond (decide (Lib.compact p.2).Nodup) (some [(false,[.frow p.1 2 1 (A1 (Lib.compact p.2))]),(true,[])]) none
structure CompAI (P:Program) (f g:FuncId):Prop where
 known:zaE P f
 run:∀ (w:World) (S:Nat→Prop) (blk cap:Nat) (d:Array (HdA w S)),(∀ k,S k→k < w.heap.size)→¬ S blk→HoldsK encA 2 w blk 0 d→blk < w.heap.size→d.size < 4611686018427387904→d.size≤cap →
  Calls P f #[.slice (some ⟨blk,0,none⟩) d.size cap,.func (.func g) #[] #[]] w fun e w'=>∃ (dk:Array (HdA w S)) (kk n:Nat) (os:Array Obj),e=.returned (.slice (some ⟨blk,0,none⟩) kk cap)∧dk.size=d.size∧w'=sortWorldK encA 2 w blk 0 n dk os∧kk≤d.size∧(dk.toList.take kk).map lstA=Lib.compact (d.toList.map lstA)∧∀ h∈dk.toList,h∈d.toList∨lstA h=(0,[])
 nil:∀ (A:Option Addr) (cap:Nat) (w:World),Calls P f #[.slice A 0 cap,.func (.func g) #[] #[]] w fun e w'=>e=.returned (.slice A 0 cap)∧w'=w
section
variable {P:Program} {G:Gd} {w:World} {S T:Nat→Prop} {b e cap:Nat} {l:List Atom} {u:Value} {fs g:FuncId}
theorem injA {cur:Array Value} {d dk:Array (HdA w S)} {kk i p c:Nat} {x:D} (hc:w.heap[b]? = some (.cells cur e (0,0))) (hd:HoldsK encA 2 w b 0 d) (hcs:dk.size * 2≤cur.size) (hk:kk≤dk.size) (hi:i < kk) (hp:p < d.size) (he:dk[i]? = d[p]?)
  (hx:zk (A1 ((dk.toList.take kk).map lstA)) i c=some x):zk (A1 (d.toList.map lstA)) p c=some x∧((putCells id 0 (flatK encA 2 dk) cur)[i * 2+c]? = cur[p * 2+c]? ∨ ∃ s,x=.list s []):=by
 have hi2:i < dk.size:=by omega
 obtain ⟨z,hz,hcx⟩:=zh7 hx
 rw [List.getElem?_map,List.getElem?_take_of_lt hi,Array.getElem?_toList,he,← Array.getElem?_toList,← List.getElem?_map] at hz
 rw [Array.getElem?_eq_getElem hi2,Array.getElem?_eq_getElem hp,Option.some.injEq] at he
 have hcell:∀ c,c < 2→(putCells id 0 (flatK encA 2 dk) cur)[i * 2+c]? = cur[p * 2+c]? := by
  intro c hc2
  have hic:i * 2+c < cur.size:=by omega
  have hif:i * 2+c < dk.size * 2:=by omega
  have hgf:=get_flatK encA 2 dk (i * 2+c) hif
  rw [show (i * 2+c) / 2=i by omega,show (i * 2+c) % 2=c by omega,getElem!_pos dk i hi2] at hgf
  have hpf:p * 2+c < d.size * 2:=by omega
  have hgd:=get_flatK encA 2 d (p * 2+c) hpf
  rw [show (p * 2+c) / 2=p by omega,show (p * 2+c) % 2=c by omega,getElem!_pos d p hp] at hgd
  have hh:=(hd (p * 2+c) (by rw [size_flatK];exact hpf)).1
  simp only [World.cell?, hc,Option.isSome_none,Bool.false_eq_true,if_false,Nat.zero_add,id,hgd] at hh
  rw [hh]
  simp only [putCells,Array.getElem?_mapIdx]
  rw [Array.getElem?_eq_getElem hic]
  simp only [Option.map_some,size_flatK,Nat.sub_zero,Nat.zero_le,Nat.zero_add,true_and,hif,if_true,id,hgf,he]
 rcases hcx with ⟨rfl,rfl⟩ | ⟨rfl,rfl⟩
 ·exact ⟨zhh hz,.inl (hcell 0 (by omega))⟩
 ·exact ⟨zjq hz,.inl (hcell 1 (by omega))⟩
theorem zfT (h:SortAC P fs g) {args:Args} {r:Res} (hr:zdm g args=some r):zax P G fs args r∧∀ k e sz xs rest,args=zak::.d (.int k e)::.d (.list sz xs)::rest→∀ e':Nat,e=e'→RawC P fs e' sz xs rest r:=by
 obtain ⟨⟨e0,l⟩,hra,hr⟩:=Option.bind_eq_some_iff.1 hr
 cases hr
 refine ⟨?_,fun k e sz xs rest hargs e' he=>?_⟩
 ·obtain ⟨_,_,rfl⟩:=zbj hra
  exact plain_raw'
 ·subst hargs
  obtain ⟨rfl,rfl,rfl,h4,hlen,hlz⟩:=zcm hra
  simp only at h4 hlen hlz
  subst he h4
  refine Or.inl fun w S T mo u vs hS hT hrow hl=>?_
  obtain rfl:=zea hl
  simp only [Int.toNat_natCast]
  have hsl:=zb7 l
  cases mo with
  | none =>
   obtain ⟨_,⟨_,A,rfl⟩,hn⟩:=hrow
   have hz:l=[]:=by simpa [A1] using hn
   subst hz
   refine (h.nil A w).mono fun ex w' ⟨h1,h2⟩=>⟨_,h1,h2,fun _=>⟨⟨by simp [A1,zaa],rfl,?_⟩,fun b cur cur' hb=>by cases hb⟩⟩
   refine ⟨fun i x hx=>by simp [A1,zaa] at hx,⟨by simp [A1,zaa],A,rfl⟩,by simp [A1,zaa]⟩
  | some b =>
   obtain ⟨_,⟨cap,cur,rfl,hc,h1,h2,h3⟩,_,hnS,cur',hc',h5,h6⟩:=hrow
   rw [zq] at *
   rw [hc] at hc'
   cases hc'
   have hblk:b < w.heap.size:=z6 hc
   obtain ⟨d,hd1,hds,hd2⟩:=zjn (S:=S) hc hlz h6
   have hd3:=hd2 rfl
   have hcall:=h.run w S b cap d hS hnS (hd2 rfl) hblk (by omega)
   rw [hds] at hcall
   refine hcall.mono fun ex w' ⟨k1,d',n,os,⟨p1,_,p3⟩,k3,k4⟩=>?_
   subst k4
   have hds':d'.size=l.length:=by rw [p1,hds]
   have hext:∀ (a:Array (HdA w S)) (m:Nat),a.size=m→a.extract 0 m=a:=fun a m hm=>by subst hm;exact Array.extract_size
   rw [hext d' _ hds',hext d _ hds] at p3
   have hys:d'.toList.map lstA=zaa l:=by
    refine zgX (by rw [← hd1];exact p3.map _) ?_
    rw [List.pairwise_map,List.pairwise_iff_getElem]
    intro i j hi hj hij
    have hi':i < d'.size:=by simpa using hi
    have hj':j < d'.size:=by simpa using hj
    have:=k3 i j (Nat.zero_le _) hij (by omega)
    rw [getElem!_pos d' j hj',getElem!_pos d' i hi'] at this
    exact this
   have hnew:(sortWorldK encA 2 w b 0 n d' os).heap[b]? = _:=zbZ (enc:=id) (n:=n) (os:=os) (flatK encA 2 d') hc
   have hcsz:(putCells id 0 (flatK encA 2 d') cur).size=cur.size:=by simp [putCells]
   have h5':l.length * 2≤cur.size:=h5
   have hput:=putA (T:=T) hS hnS hc d' n os d'.size (by omega) (Nat.le_refl _)
   rw [show d'.toList.take d'.size=d'.toList by rw [show d'.size=d'.toList.length by simp,List.take_length],hys] at hput
   refine ⟨_,k1,zjp hc d' n os,fun _=>⟨⟨by rw [zq,zq,hsl],rfl,zfZ _,?_,Nat.zero_le _,hnS,_,hnew,by rw [zq,hsl,hcsz];exact h5',hput⟩,?_⟩⟩
   ·rw [zq,hsl]
    exact ⟨cap,_,rfl,hnew,h1,h2,by rw [hcsz];exact h3⟩
   ·intro b1 c1 c2 hb1 hc1 hc2
    cases hb1
    rw [hc] at hc1
    cases hc1
    rw [hnew] at hc2
    cases hc2
    obtain ⟨π,q1,q2⟩:=zj5 p3
    rw [zq,hsl]
    refine ⟨π,fun i i' hi hi'=>q1 i i' (by simpa [hds'] using hi) (by simpa [hds'] using hi'),fun i hi c x hx=>?_⟩
    obtain ⟨e1,e2⟩:=q2 i (by simpa [hds'] using hi)
    rw [← hys,show d'.toList=d'.toList.take d'.size by rw [show d'.size=d'.toList.length by simp,List.take_length]] at hx
    rw [← hd1]
    exact injA hc hd3 (by omega) (Nat.le_refl _) (by omega) (by simpa using e2) (by simpa using e1) hx
theorem zfq (h:CompAI P fs g) {args:Args} {r:Res} (hr:zdh g args=some r):zax P G fs args r∧∀ k e sz xs rest,args=zak::.d (.int k e)::.d (.list sz xs)::rest→∀ e':Nat,e=e'→RawC P fs e' sz xs rest r:=by
 obtain ⟨⟨e0,l⟩,hra,hr⟩:=Option.bind_eq_some_iff.1 hr
 cases hnd:decide (Lib.compact l).Nodup with
 | false=>simp only [hnd,cond_false] at hr;cases hr
 | true =>
 simp only [hnd,cond_true] at hr
 replace hnd:=of_decide_eq_true hnd
 cases hr
 refine ⟨?_,fun k e sz xs rest hargs e' he=>?_⟩
 ·obtain ⟨_,_,rfl⟩:=zbj hra
  exact plain_raw'
 ·subst hargs
  obtain ⟨rfl,rfl,rfl,h4,hlen,hlz⟩:=zcm hra
  simp only at h4 hlen hlz
  subst he h4
  refine Or.inl fun w S T mo u vs hS hT hrow hl=>?_
  obtain rfl:=zea hl
  simp only [Int.toNat_natCast]
  have hsl:=zdv l
  cases mo with
  | none =>
   obtain ⟨_,⟨_,A,rfl⟩,hn⟩:=hrow
   have hz:l=[]:=by simpa [A1] using hn
   subst hz
   refine (h.nil A 0 w).mono fun ex w' ⟨h1,h2⟩=>⟨_,h1,by subst h2;exact Below.refl _ _,fun _=>⟨?_,fun b cur cur' hb=>by cases hb⟩⟩
   exact ⟨fun i x hx=>by simp [A1,Lib.compact,Lib.compactUpTo] at hx,⟨by simp [A1,Lib.compact,Lib.compactUpTo],A,rfl⟩,by simp [A1,Lib.compact,Lib.compactUpTo]⟩
  | some b =>
   obtain ⟨_,⟨cap,cur,rfl,hc,h1,h2,h3⟩,_,hnS,cur',hc',h5,h6⟩:=hrow
   rw [zq] at *
   rw [hc] at hc'
   cases hc'
   have hblk:b < w.heap.size:=z6 hc
   obtain ⟨d,hd1,hds,hd2⟩:=zjn (S:=S) hc hlz h6
   have hd3:=hd2 rfl
   have hcall:=h.run w S b cap d hS hnS (hd2 rfl) hblk (by omega) (by have h1:l.length≤cap:=h1;omega)
   rw [hds] at hcall
   refine hcall.mono fun ex w' ⟨dk,kk,n,os,k1,k2,k3,k4,k5,k6⟩=>?_
   rw [hd1] at k5
   subst k3
   have hnew:(sortWorldK encA 2 w b 0 n dk os).heap[b]? = _:=zbZ (enc:=id) (n:=n) (os:=os) (flatK encA 2 dk) hc
   have hcsz:(putCells id 0 (flatK encA 2 dk) cur).size=cur.size:=by simp [putCells]
   have hkk:kk=(Lib.compact l).length:=by
    rw [← k5]
    simp only [List.length_map,List.length_take,Array.length_toList]
    omega
   have h5':l.length * 2≤cur.size:=h5
   have hput:=putA (T:=T) hS hnS hc dk n os kk (by omega) (by omega)
   rw [k5] at hput
   refine ⟨_,k1,zjp hc dk n os,fun _=>⟨⟨zfZ _,?_,Nat.zero_le _,hnS,_,hnew,by rw [zq,hcsz];omega,hput⟩,?_⟩⟩
   ·rw [zq,hkk]
    have h1:l.length≤cap:=h1
    exact ⟨cap,_,rfl,hnew,by omega,h2,by rw [hcsz];exact h3⟩
   ·intro b1 c1 c2 hb1 hc1 hc2
    cases hb1
    rw [hc] at hc1
    cases hc1
    rw [hnew] at hc2
    cases hc2
    have hget:∀ j (hj:j < kk),(Lib.compact l)[j]? = some (lstA dk[j]):=fun j hj=>by
     have hj2:j < dk.size:=by omega
     rw [← k5,List.getElem?_map,List.getElem?_take_of_lt hj]
     simp [hj2]
    have hmc:∀ z,z∈Lib.compact l→z∈l:=fun z hz=>by
     unfold Lib.compact Lib.compactUpTo at hz
     simp only [List.mem_map,List.mem_filter,List.mem_range] at hz
     obtain ⟨i,⟨hi,_⟩,rfl⟩:=hz
     rw [getElem!_pos _ i (by simpa using hi)]
     simp
    have ex1:∀ j:Nat,∃ i:Nat,∀ hj:j < kk,l[i]? = some (lstA dk[j])∧(d[i]? = some dk[j]∨lstA dk[j]=(0,[])):=by
     intro j
     by_cases hj:j < kk
     ·have hj2:j < dk.size:=by omega
      rcases k6 dk[j] (by simp) with hm | hm
      ·obtain ⟨i,hi,e⟩:=List.mem_iff_getElem.1 hm
       have hi':i < d.size:=by simpa using hi
       refine ⟨i,fun _=>⟨?_,.inl ?_⟩⟩
       ·refine (congrArg (fun z:List Atom=>z[i]?) hd1).symm.trans ?_
        show (List.map lstA d.toList)[i]? = _
        rw [List.getElem?_map,List.getElem?_eq_getElem hi,e]
        rfl
       ·rw [Array.getElem?_eq_getElem hi']
        simpa using e
      ·have hmem:lstA dk[j]∈l:=hmc _ (List.mem_of_getElem? (hget j hj))
       obtain ⟨i,hi,e⟩:=List.mem_iff_getElem.1 hmem
       exact ⟨i,fun _=>⟨by rw [List.getElem?_eq_getElem hi,e],.inr hm⟩⟩
     ·exact ⟨0,fun h=>absurd h hj⟩
    have ex2:=Classical.axiomOfChoice ex1
    obtain ⟨π,hπ⟩:=ex2
    rw [zq,← hkk]
    refine ⟨π,fun i i' hi hi' he=>?_,fun i hi c x hx=>?_⟩
    ·have g1:=(hπ i hi).1
     have g2:=(hπ i' hi').1
     rw [he,g2] at g1
     have g3:=hget i hi
     have g4:=hget i' hi'
     replace g1:=Option.some.inj g1
     rw [g1] at g4
     exact (List.getElem?_inj (i:=i) (by rw [← hkk];exact hi) hnd).1 (g3.trans g4.symm)
    ·obtain ⟨q1,q2⟩:=hπ i hi
     have hi2:i < dk.size:=by omega
     rcases q2 with q2 | q2
     ·have hpi:π i < d.size:=(Array.getElem?_eq_some_iff.1 q2).1
      rw [← k5] at hx
      rw [← hd1]
      exact injA (kk:=kk) hc hd3 (by omega) (by omega) (by omega) hpi (by rw [Array.getElem?_eq_getElem hi2,q2]) hx
     ·obtain ⟨z,hz,hcx⟩:=zh7 hx
      rw [hget i hi,q2] at hz
      cases hz
      rw [q2] at q1
      rcases hcx with ⟨rfl,rfl⟩ | ⟨rfl,rfl⟩
      ·refine ⟨zhh q1,.inl ?_⟩
       obtain ⟨_,v0,hv0,hr0⟩:=h6 (π i) 0 _ (zhh q1)
       obtain ⟨_,v1,hv1,hr1⟩:=hput i 0 _ hx
       rw [hv0,hv1,RD.int_eq hr0,RD.int_eq hr1]
      ·exact ⟨zjq q1,.inr ⟨1,rfl⟩⟩
theorem SortAC.okG (h:SortAC P fs g):PrimOk P G fs (zdm g):=⟨h.known,(fun args r hr=>(zfT h hr).1),(fun k e sz xs rest r hr e' he=>(zfT (G:=noG) h hr).2 k e sz xs rest rfl e' he),fun b k xs r hr=>by first | (cases hr;done) | (unfold zdm at hr;(first | (cases hr;done) | (split at hr<;>cases hr;done) | (cases xs<;>cases hr;done) | (simp at hr;done)))⟩
theorem CompAI.ok (h:CompAI P fs g):PrimOk P G fs (zdh g):=⟨h.known,(fun args r hr=>(zfq h hr).1),(fun k e sz xs rest r hr e' he=>(zfq (G:=noG) h hr).2 k e sz xs rest rfl e' he),fun b k xs r hr=>by first | (cases hr;done) | (unfold zdh at hr;obtain ⟨q,h1,_⟩:=Option.bind_eq_some_iff.1 hr;obtain ⟨e,xs',h2⟩:=zbj h1;cases h2)⟩
end
end Ovi
namespace Ovi
open Go Go.Proofs Go.RowKit Go.Sort Go.Lib
def znV (w:World) (S:Nat→Prop) (blk cap:Nat) (d:Array (HdL w S)) (e:Ending) (w':World):Prop :=
 ∃ (d1 dk:Array (HdL w S)) (n q kk:Nat) (os:Array Obj),e=.returned (.slice (some ⟨blk,0,none⟩) kk cap)∧d1.size=d.size∧dk.size=d.size∧w'=sortWorld encH (sortWorld encH w blk 0 n d1 os) blk 0 q dk #[]∧kk≤d.size∧(dk.toList.take kk).map lstH=Lib.compact (zM (d.toList.map lstH))
structure RsC (P:Program) (f:FuncId):Prop where
 known:zaE P f
 run:∀ (w:World) (S:Nat→Prop) (blk cap:Nat) (d:Array (HdL w S)),(∀ k,S k→k < w.heap.size)→¬ S blk→Holds encH w blk 0 d→blk < w.heap.size→d.size < 4611686018427387904→d.size≤cap →
  Calls P f #[.slice (some ⟨blk,0,none⟩) d.size cap] w (znV w S blk cap d)
 nil:∀ (A:Option Addr) (w:World),Calls P f #[.slice A 0 0] w fun e w'=>e=.returned (.slice A 0 0)∧Below w.heap.size w w'
def zdl:Args→Option (Nat × BL)
 | [.var 0 0,.d (.int .i64 e),.d (.list 1 xs)]=>(zhJ xs).bind fun l=>cond (Nat.ble l.length 1099511627776&&l.all fun z=>Nat.ble z.length 1099511627776) (some (e.toNat,l)) none
 | _=>none
def zhc (args:Args):Option Res:=(zdl args).bind fun p=>some [(false,[.row p.1 1 (LL (Lib.compact (zM p.2)))]),(true,[])]
theorem zb6 {args:Args} {p:Nat × BL} (h:zdl args=some p):∃ e xs,args=[.var 0 0,.d (.int .i64 e),.d (.list 1 xs)]:=by
 unfold zdl at h
 split at h
 ·exact ⟨_,_,rfl⟩
 ·cases h
theorem zfQ {k:IntKind} {e:Int} {sz:Nat} {xs:Rows} {rest:Args} {p:Nat × BL} (h:zdl (zak::.d (.int k e)::.d (.list sz xs)::rest)=some p):sz=1∧rest=[]∧xs=LL p.2∧p.1=e.toNat∧p.2.length≤1099511627776∧∀ z∈p.2,z.length≤1099511627776:=by
 obtain ⟨e1,xs1,heq⟩:=zb6 h
 simp only [zak,List.cons.injEq,AV.d.injEq,D.int.injEq,D.list.injEq,true_and] at heq
 obtain ⟨⟨rfl,rfl⟩,⟨rfl,rfl⟩,rfl⟩:=heq
 simp only [zdl,zak] at h
 obtain ⟨l,hl,h⟩:=Option.bind_eq_some_iff.1 h
 cases hb:(Nat.ble l.length 1099511627776&&l.all fun z=>Nat.ble z.length 1099511627776) with
 | false=>rw [hb] at h;cases h
 | true =>
  rw [hb] at h
  cases h
  rw [Bool.and_eq_true,List.all_eq_true] at hb
  exact ⟨rfl,rfl,zeL hl,rfl,Nat.le_of_ble_eq_true hb.1,fun z hz=>Nat.le_of_ble_eq_true (hb.2 z hz)⟩
theorem zc6 {w:World} {α:Type} [Inhabited α] {enc:α→Value} {b n:Nat} {d:Array α} {os:Array Obj}:w.heap.size≤(sortWorld enc w b 0 n d os).heap.size:=by
 simp only [sortWorld,grow,putRow,mapBlock,Sort.ahead,Array.size_append,Array.size_modify]
 omega
theorem zfa {P:Program} {G:Gd} {fs:FuncId} (h:RsC P fs) {args:Args} {r:Res} (hr:zhc args=some r):zax P G fs args r∧∀ k e sz xs rest,args=zak::.d (.int k e)::.d (.list sz xs)::rest→∀ e':Nat,e=e'→RawC P fs e' sz xs rest r:=by
 obtain ⟨⟨e0,l⟩,hra,hr⟩:=Option.bind_eq_some_iff.1 hr
 cases hr
 refine ⟨?_,fun k e sz xs rest hargs e' he=>?_⟩
 ·obtain ⟨_,_,rfl⟩:=zb6 hra
  exact plain_raw'
 ·subst hargs
  obtain ⟨rfl,rfl,rfl,h4,hlen,hlz⟩:=zfQ hra
  simp only at h4 hlen hlz
  subst he h4
  refine Or.inl fun w S T mo u vs hS hT hrow hl=>?_
  obtain rfl:=zc8 hl
  simp only [Array.append_empty,Int.toNat_natCast]
  have hsl:(Lib.compact (zM l)).length≤l.length:=by have:=zcn (zM l);rw [zb9] at this;exact this
  cases mo with
  | none =>
   obtain ⟨_,⟨_,A,rfl⟩,hn⟩:=hrow
   have hz:l=[]:=by simpa [LL] using hn
   subst hz
   refine (h.nil A w).mono fun ex w' ⟨h1,h2⟩=>⟨_,h1,h2,fun _=>?_⟩
   exact ⟨fun i x hx=>by simp [LL,zM,Lib.compact,Lib.compactUpTo] at hx,⟨by simp [LL,zM,Lib.compact,Lib.compactUpTo],A,rfl⟩,by simp [LL,zM,Lib.compact,Lib.compactUpTo]⟩
  | some b =>
   obtain ⟨_,⟨cap,cur,rfl,hc,h1,h2,h3⟩,_,hnS,cur',hc',h5,h6⟩:=hrow
   rw [zQ] at *
   rw [hc] at hc'
   cases hc'
   have hblk:b < w.heap.size:=z6 hc
   obtain ⟨dl,hd1,hdl⟩:=mkH (w:=w) (S:=S) (cur:=cur) l 0 fun i zs hz=>by
    obtain ⟨_,v,hv,hrd⟩:=h6 i 0 _ (zc1 hz)
    rw [Nat.mul_one,Nat.add_zero] at hv
    exact ⟨v,by rw [Nat.zero_add];exact hv,RD.ri hrd,hlz _ (List.mem_of_getElem? hz)⟩
   obtain ⟨d,rfl⟩:∃ d:Array (HdL w S),dl=d.toList:=⟨dl.toArray,rfl⟩
   have hd2:Holds encH w b 0 d:=by
    intro j hj
    rw [getElem!_pos d j hj]
    refine ⟨?_,by simp [World.frozen?, hc]⟩
    simp only [World.cell?, hc,Option.isSome_none,Bool.false_eq_true,if_false]
    exact hdl j _ (by simp [hj])
   have hds:d.size=l.length:=by rw [← hd1];simp
   have hcall:=h.run w S b cap d hS hnS hd2 hblk (by omega) (by have h1:l.length≤cap:=h1;omega)
   rw [hds] at hcall
   refine hcall.mono fun ex w' ⟨d1,dk,n,q,kk,os,k1,k0,k2,k3,k4,k5⟩=>?_
   rw [hd1] at k5
   subst k3
   have hnew1:=zbZ (enc:=encH) (n:=n) (os:=os) d1 hc
   have hnew:=zbZ (enc:=encH) (n:=q) (os:=#[]) dk hnew1
   have hcsz:(putCells encH 0 dk (putCells encH 0 d1 cur)).size=cur.size:=by simp [putCells]
   have hsz1:w.heap.size≤(sortWorld encH w b 0 n d1 os).heap.size:=zc6
   have hsz2:(sortWorld encH w b 0 n d1 os).heap.size≤(sortWorld encH (sortWorld encH w b 0 n d1 os) b 0 q dk #[]).heap.size:=zc6
   have hst1:=zcy (enc:=encH) (n:=n) (os:=os) d1 hS hnS
   have hst2:=zcy (enc:=encH) (w:=sortWorld encH w b 0 n d1 os) (n:=q) (os:=#[]) dk (fun k hk=>Nat.lt_of_lt_of_le (hS k hk) hsz1) hnS
   have hkk:kk=(Lib.compact (zM l)).length:=by
    rw [← k5]
    simp only [List.length_map,List.length_take,Array.length_toList]
    omega
   have h5':l.length * 1≤cur.size:=h5
   refine ⟨_,k1,⟨cur,_,hc,hcsz,rfl,rfl,rfl,by simpa [zag] using Nat.le_trans hsz1 hsz2,fun k hk=>?_⟩,fun _=>⟨zdf _,?_,Nat.zero_le _,hnS,_,hnew,by rw [zQ,hcsz];omega,fun i c x hx=>?_⟩⟩
   ·have hk:k < w.heap.size:=by simpa using hk
    by_cases hkb:k=b
    ·subst hkb
     rw [zaH hblk,hnew]
    ·rw [zaI hkb,zcH _ (Nat.lt_of_lt_of_le hk hsz1) hkb]
     exact zcH _ hk hkb
   ·rw [zQ,hkk]
    have h1:l.length≤cap:=h1
    exact ⟨cap,_,rfl,hnew,by omega,h2,by rw [hcsz];omega⟩
   ·obtain ⟨rfl,zs,hz,rfl⟩:=zbx hx
    have hi0:=(List.getElem?_eq_some_iff.1 hz).1
    have hi:i < dk.size:=by omega
    refine ⟨rfl,encH dk[i],?_,?_⟩
    ·have hic:i < (putCells encH 0 d1 cur).size:=by simp only [putCells,Array.size_mapIdx];omega
     rw [Nat.mul_one,Nat.add_zero]
     conv=>lhs;rw [putCells]
     rw [Array.getElem?_mapIdx,Array.getElem?_eq_getElem hic]
     simp [hi]
    ·have:lstH dk[i]=zs:=by
      rw [← k5,List.getElem?_map,List.getElem?_take_of_lt (by omega)] at hz
      simpa [hi] using hz
     rw [← this]
     exact RI.rd (RI.stab dk[i].h (hst1.trans hst2))
theorem RsC.ok {P:Program} {G:Gd} {f:FuncId} (h:RsC P f):PrimOk P G f zhc:=⟨h.known,(fun args r hr=>(zfa h hr).1),(fun k e sz xs rest r hr e' he=>(zfa (G:=noG) h hr).2 k e sz xs rest rfl e' he),fun b k xs r hr=>by first | (cases hr;done) | (unfold zhc at hr;(first | (cases hr;done) | (split at hr<;>cases hr;done) | (cases xs<;>cases hr;done) | (simp at hr;done)))⟩
def ten5:Array Value:=#[.int .i64 10,.int .i64 10,.int .i64 10,.int .i64 10,.int .i64 10]
structure RepC (P:Program) (f:FuncId) (e:Nat):Prop where
 known:zaE P f
 run:∀ (b o c:Nat) (w:World),w.cell? ⟨b,o,none⟩=some (.int .i64 10)→b < w.heap.size →
  Calls P f #[.slice (some ⟨b,o,none⟩) 1 c,.int .i64 5] w fun ex w'=>ex=.returned (.slice (some ⟨w.heap.size,0,none⟩) 5 5)∧∃ q,w'=(w.alloc (.cells ten5 e (0,0))).drewN q
def zgi (e:Nat):Args→Option Res
 | [.d (.list 1 [[.int .i64 z]]),.d (.int .i64 n)]=>cond (decide (z=10)&&decide (n=5)) (some [(false,[.row e 1 (I1 [10,10,10,10,10])])]) none
 | _=>none
theorem ziY {P:Program} {G:Gd} {f:FuncId} {e:Nat} (h:RepC P f e) {args:Args} {r:Res} (hr:zgi e args=some r):zax P G f args r∧zco args=false:=by
 unfold zgi at hr
 split at hr
 ·rename_i z n
  cases hb:(decide (z=10)&&decide (n=5)) with
  | false=>rw [hb] at hr;cases hr
  | true =>
   rw [hb] at hr
   cases hr
   rw [Bool.and_eq_true,decide_eq_true_eq,decide_eq_true_eq] at hb
   obtain ⟨rfl,rfl⟩:=hb
   refine ⟨?_,rfl⟩
   intro w S T vs hS hT hl _
   obtain ⟨u,v,rfl,hu,hv⟩:=zkL hl
   cases hv
   have hri:RI w S u [10]:=RD.ri hu
   obtain ⟨A,c,rfl,hc,hx⟩:=hri
   obtain ⟨ad,rfl,hSad,hcell⟩:=hx 0 10 rfl
   obtain ⟨b,o,spot⟩:=ad
   have hspot:spot=none:=by simpa [Addr.add] using World.cell?_spot hcell
   subst hspot
   have hcell':w.cell? ⟨b,o,none⟩=some (.int .i64 10):=by rw [add_at] at hcell;exact hcell
   refine (h.run b o c w hcell' (hS b hSad)).mono fun ex w' ⟨k1,q,k2⟩=>?_
   subst k2
   have hg:((w.alloc (.cells ten5 e (0,0))).drewN q).heap[w.heap.size]? = some (.cells ten5 e (0,0)):=by
    show (w.heap.push _)[w.heap.size]? = _
    simp
   have hrow:rowC ((w.alloc (.cells ten5 e (0,0))).drewN q) S T w.heap.size (some w.heap.size) e 1 (I1 [10,10,10,10,10]) (.slice (some ⟨w.heap.size,0,none⟩) 5 5):=by
    refine ⟨zf1 _,⟨5,ten5,rfl,hg,by simp [I1],by unfold maxLen;omega,rfl⟩,Nat.le_refl _,fun h=>Nat.lt_irrefl _ (hS _ h),ten5,hg,by simp [I1,ten5],fun i c' x hx=>?_⟩
    obtain ⟨rfl,z,hz,rfl⟩:=zde hx
    refine ⟨rfl,.int .i64 z,?_,.int _ _⟩
    have hi:=(List.getElem?_eq_some_iff.1 hz).1
    simp only [List.length_cons,List.length_nil] at hi
    rw [Nat.mul_one,Nat.add_zero]
    match i,hi,hz with
    | 0,_,hz=>cases hz;rfl
    | 1,_,hz=>cases hz;rfl
    | 2,_,hz=>cases hz;rfl
    | 3,_,hz=>cases hz;rfl
    | 4,_,hz=>cases hz;rfl
    | i+5,hi,_=>omega
   have hbel:Below w.heap.size w ((w.alloc (.cells ten5 e (0,0))).drewN q):=by
    have:=(Below.refl w.heap.size w).alloc (Nat.le_refl _) (.cells ten5 e (0,0))
    exact ⟨this.os,this.tape,this.output,this.size,this.block⟩
   refine ⟨_,S,fun _ _=>some w.heap.size,k1,hbel,fun _ h=>h,fun _ h=>.inl h,⟨⟨[_],rfl,rfl,fun i x hx=>?_⟩,fun i j i' j' b h1 h2 _ _=>?_⟩,frC.none rfl⟩
   ·cases i with
    | zero=>cases hx;exact ⟨_,rfl,_,rfl,hrow⟩
    | succ i=>simp at hx
   ·have key:∀ i j,zZ (zR [(false,[.row e 1 (I1 [10,10,10,10,10])])] i j)=true→i=0∧j=0:=by
     intro i j hij
     cases i with
     | zero =>
      cases j with
      | zero=>exact ⟨rfl,rfl⟩
      | succ j=>simp [zR,zZ] at hij
     | succ i=>simp [zR,zZ] at hij
    obtain ⟨rfl,rfl⟩:=key i j h1
    obtain ⟨rfl,rfl⟩:=key i' j' h2
    exact ⟨rfl,rfl⟩
 ·cases hr
theorem RepC.ok {P:Program} {G:Gd} {f:FuncId} {e:Nat} (h:RepC P f e):PrimOk P G f (zgi e):=⟨h.known,(fun args r hr=>(ziY h hr).1),(fun k e0 sz xs rest r hr e' he=>by have:=(ziY (G:=noG) h hr).2;cases this),fun b k xs r hr=>by first | (cases hr;done) | (unfold zgi at hr;(first | (cases hr;done) | (split at hr<;>cases hr;done) | (cases xs<;>cases hr;done) | (simp at hr;done)))⟩
end Ovi
namespace Ovi
open Go Go.Proofs Go.RowKit Go.Sort Go.Lib
def znh (w:World) (S:Nat→Prop) (blk cap:Nat) (d:Array (HdL w S)) (e:Ending) (w':World):Prop :=
 ∃ (d1 dk:Array (HdL w S)) (n q kk:Nat) (os:Array Obj),e=.returned (.slice (some ⟨blk,0,none⟩) kk cap)∧d1.size=d.size∧dk.size=d.size∧w'=sortWorld encH (sortWorld encH w blk 0 n d1 os) blk 0 q dk #[]∧kk≤d.size∧(dk.toList.take kk).map lstH=Lib.compact (zM (d.toList.map lstH))∧∀ h∈dk.toList,h∈d.toList∨lstH h=[]
structure RsI (P:Program) (f:FuncId):Prop where
 known:zaE P f
 run:∀ (w:World) (S:Nat→Prop) (blk cap:Nat) (d:Array (HdL w S)),(∀ k,S k→k < w.heap.size)→¬ S blk→Holds encH w blk 0 d→blk < w.heap.size→d.size < 4611686018427387904→d.size≤cap →
  Calls P f #[.slice (some ⟨blk,0,none⟩) d.size cap] w (znh w S blk cap d)
 nil:∀ (A:Option Addr) (w:World),Calls P f #[.slice A 0 0] w fun e w'=>e=.returned (.slice A 0 0)∧Below w.heap.size w w'
def zfR (args:Args):Option Res:=(zdl args).bind fun p=>cond (decide (Lib.compact (zM p.2)).Nodup) (some [(false,[.frow p.1 1 1 (LL (Lib.compact (zM p.2)))]),(true,[])]) none
theorem zej {P:Program} {G:Gd} {fs:FuncId} (h:RsI P fs) {args:Args} {r:Res} (hr:zfR args=some r):zax P G fs args r∧∀ k e sz xs rest,args=zak::.d (.int k e)::.d (.list sz xs)::rest→∀ e':Nat,e=e'→RawC P fs e' sz xs rest r:=by
 obtain ⟨⟨e0,l⟩,hra,hr⟩:=Option.bind_eq_some_iff.1 hr
 cases hnd:decide (Lib.compact (zM l)).Nodup with
 | false=>simp only [hnd,cond_false] at hr;cases hr
 | true =>
 simp only [hnd,cond_true] at hr
 replace hnd:=of_decide_eq_true hnd
 cases hr
 refine ⟨?_,fun k e sz xs rest hargs e' he=>?_⟩
 ·obtain ⟨_,_,rfl⟩:=zb6 hra
  exact plain_raw'
 ·subst hargs
  obtain ⟨rfl,rfl,rfl,h4,hlen,hlz⟩:=zfQ hra
  simp only at h4 hlen hlz
  subst he h4
  refine Or.inl fun w S T mo u vs hS hT hrow hl=>?_
  obtain rfl:=zc8 hl
  simp only [Array.append_empty,Int.toNat_natCast]
  have hsl:(Lib.compact (zM l)).length≤l.length:=by have:=zcn (zM l);rw [zb9] at this;exact this
  cases mo with
  | none =>
   obtain ⟨_,⟨_,A,rfl⟩,hn⟩:=hrow
   have hz:l=[]:=by simpa [LL] using hn
   subst hz
   refine (h.nil A w).mono fun ex w' ⟨h1,h2⟩=>⟨_,h1,h2,fun _=>⟨?_,fun b cur cur' hb=>by cases hb⟩⟩
   exact ⟨fun i x hx=>by simp [LL,zM,Lib.compact,Lib.compactUpTo] at hx,⟨by simp [LL,zM,Lib.compact,Lib.compactUpTo],A,rfl⟩,by simp [LL,zM,Lib.compact,Lib.compactUpTo]⟩
  | some b =>
   obtain ⟨_,⟨cap,cur,rfl,hc,h1,h2,h3⟩,_,hnS,cur',hc',h5,h6⟩:=hrow
   rw [zQ] at *
   rw [hc] at hc'
   cases hc'
   have hblk:b < w.heap.size:=z6 hc
   obtain ⟨dl,hd1,hdl⟩:=mkH (w:=w) (S:=S) (cur:=cur) l 0 fun i zs hz=>by
    obtain ⟨_,v,hv,hrd⟩:=h6 i 0 _ (zc1 hz)
    rw [Nat.mul_one,Nat.add_zero] at hv
    exact ⟨v,by rw [Nat.zero_add];exact hv,RD.ri hrd,hlz _ (List.mem_of_getElem? hz)⟩
   obtain ⟨d,rfl⟩:∃ d:Array (HdL w S),dl=d.toList:=⟨dl.toArray,rfl⟩
   have hd2:Holds encH w b 0 d:=by
    intro j hj
    rw [getElem!_pos d j hj]
    refine ⟨?_,by simp [World.frozen?, hc]⟩
    simp only [World.cell?, hc,Option.isSome_none,Bool.false_eq_true,if_false]
    exact hdl j _ (by simp [hj])
   have hds:d.size=l.length:=by rw [← hd1];simp
   have hcall:=h.run w S b cap d hS hnS hd2 hblk (by omega) (by have h1:l.length≤cap:=h1;omega)
   rw [hds] at hcall
   refine hcall.mono fun ex w' ⟨d1,dk,n,q,kk,os,k1,k0,k2,k3,k4,k5,k6⟩=>?_
   rw [hd1] at k5
   subst k3
   have hnew1:=zbZ (enc:=encH) (n:=n) (os:=os) d1 hc
   have hnew:=zbZ (enc:=encH) (n:=q) (os:=#[]) dk hnew1
   have hcsz:(putCells encH 0 dk (putCells encH 0 d1 cur)).size=cur.size:=by simp [putCells]
   have hsz1:w.heap.size≤(sortWorld encH w b 0 n d1 os).heap.size:=zc6
   have hsz2:(sortWorld encH w b 0 n d1 os).heap.size≤(sortWorld encH (sortWorld encH w b 0 n d1 os) b 0 q dk #[]).heap.size:=zc6
   have hst1:=zcy (enc:=encH) (n:=n) (os:=os) d1 hS hnS
   have hst2:=zcy (enc:=encH) (w:=sortWorld encH w b 0 n d1 os) (n:=q) (os:=#[]) dk (fun k hk=>Nat.lt_of_lt_of_le (hS k hk) hsz1) hnS
   have hkk:kk=(Lib.compact (zM l)).length:=by
    rw [← k5]
    simp only [List.length_map,List.length_take,Array.length_toList]
    omega
   have h5':l.length * 1≤cur.size:=h5
   refine ⟨_,k1,⟨cur,_,hc,hcsz,rfl,rfl,rfl,by simpa [zag] using Nat.le_trans hsz1 hsz2,fun k hk=>?_⟩,fun _=>⟨⟨zdf _,?_,Nat.zero_le _,hnS,_,hnew,by rw [zQ,hcsz];omega,fun i c x hx=>?_⟩,?_⟩⟩
   ·have hk:k < w.heap.size:=by simpa using hk
    by_cases hkb:k=b
    ·subst hkb
     rw [zaH hblk,hnew]
    ·rw [zaI hkb,zcH _ (Nat.lt_of_lt_of_le hk hsz1) hkb]
     exact zcH _ hk hkb
   ·rw [zQ,hkk]
    have h1:l.length≤cap:=h1
    exact ⟨cap,_,rfl,hnew,by omega,h2,by rw [hcsz];omega⟩
   ·obtain ⟨rfl,zs,hz,rfl⟩:=zbx hx
    have hi0:=(List.getElem?_eq_some_iff.1 hz).1
    have hi:i < dk.size:=by omega
    refine ⟨rfl,encH dk[i],?_,?_⟩
    ·have hic:i < (putCells encH 0 d1 cur).size:=by simp only [putCells,Array.size_mapIdx];omega
     rw [Nat.mul_one,Nat.add_zero]
     conv=>lhs;rw [putCells]
     rw [Array.getElem?_mapIdx,Array.getElem?_eq_getElem hic]
     simp [hi]
    ·have:lstH dk[i]=zs:=by
      rw [← k5,List.getElem?_map,List.getElem?_take_of_lt (by omega)] at hz
      simpa [hi] using hz
     rw [← this]
     exact RI.rd (RI.stab dk[i].h (hst1.trans hst2))
   ·intro b1 c1 c2 hb1 hc1 hc2
    cases hb1
    rw [hc] at hc1
    cases hc1
    rw [hnew] at hc2
    cases hc2
    have hget:∀ j (hj:j < kk),(Lib.compact (zM l))[j]? = some (lstH dk[j]):=fun j hj=>by
     have hj2:j < dk.size:=by omega
     rw [← k5,List.getElem?_map,List.getElem?_take_of_lt hj]
     simp [hj2]
    have ex1:∀ j:Nat,∃ i:Nat,∀ hj:j < kk,l[i]? = some (lstH dk[j])∧(d[i]? = some dk[j]∨lstH dk[j]=[]):=by
     intro j
     by_cases hj:j < kk
     ·have hj2:j < dk.size:=by omega
      rcases k6 dk[j] (by simp) with hm | hm
      ·obtain ⟨i,hi,e⟩:=List.mem_iff_getElem.1 hm
       have hi':i < d.size:=by simpa using hi
       refine ⟨i,fun _=>⟨?_,.inl ?_⟩⟩
       ·refine (congrArg (fun z:BL=>z[i]?) hd1).symm.trans ?_
        show (List.map lstH d.toList)[i]? = _
        rw [List.getElem?_map,List.getElem?_eq_getElem hi,e]
        rfl
       ·rw [Array.getElem?_eq_getElem hi']
        simpa using e
      ·have hmem:lstH dk[j]∈l:=(zja l _).1 ((zfE _ _).1 (List.mem_of_getElem? (hget j hj)))
       obtain ⟨i,hi,e⟩:=List.mem_iff_getElem.1 hmem
       exact ⟨i,fun _=>⟨by rw [List.getElem?_eq_getElem hi,e],.inr hm⟩⟩
     ·exact ⟨0,fun h=>absurd h hj⟩
    have ex2:=Classical.axiomOfChoice ex1
    obtain ⟨π,hπ⟩:=ex2
    rw [zQ,← hkk]
    refine ⟨π,fun i i' hi hi' he=>?_,fun i hi c x hx=>?_⟩
    ·have g1:=(hπ i hi).1
     have g2:=(hπ i' hi').1
     rw [he,g2] at g1
     have g3:=hget i hi
     have g4:=hget i' hi'
     replace g1:=Option.some.inj g1
     rw [g1] at g4
     exact (List.getElem?_inj (i:=i) (by rw [← hkk];exact hi) hnd).1 (g3.trans g4.symm)
    ·obtain ⟨rfl,zs,hz,rfl⟩:=zbx hx
     rw [hget i hi] at hz
     cases hz
     obtain ⟨q1,q2⟩:=hπ i hi
     refine ⟨zc1 q1,?_⟩
     rcases q2 with q2 | q2
     ·left
      have hpi:π i < d.size:=(Array.getElem?_eq_some_iff.1 q2).1
      have g1:=hdl (π i) dk[i] (by rw [← q2];simp)
      have hi2:i < dk.size:=by omega
      have hic:i < cur.size:=by omega
      rw [Nat.zero_add] at g1
      simp only [Nat.mul_one,Nat.add_zero,putCells,Array.getElem?_mapIdx]
      rw [Array.getElem?_eq_getElem hic,g1]
      simp [hi2]
     ·right
      rw [q2]
      exact ⟨1,rfl⟩
theorem RsI.ok {P:Program} {G:Gd} {f:FuncId} (h:RsI P f):PrimOk P G f zfR:=⟨h.known,(fun args r hr=>(zej h hr).1),(fun k e sz xs rest r hr e' he=>(zej (G:=noG) h hr).2 k e sz xs rest rfl e' he),fun b k xs r hr=>by first | (cases hr;done) | (unfold zfR at hr;obtain ⟨q,h1,_⟩:=Option.bind_eq_some_iff.1 hr;obtain ⟨e,xs',h2⟩:=zb6 h1;cases h2)⟩
end Ovi
namespace Ovi
open Go Go.Proofs Go.Sort Go.Lib
def SSL (l:BL):Prop:=l.Pairwise fun x y=>ltL x y=true
end Ovi
namespace Ovi
open Go Go.RowKit
def NT:Nat→Prop:=fun _=>False
def ListC (P:Program) (f:FuncId) (sz:Nat) (mk:Rows→Int→Option (Rows × Int)):Prop :=
 ∀ (w:World) (v:Value) (xs:Rows) (B:Nat→Prop) (n:Nat) (k:Int) (xs':Rows) (k':Int),depD n (.list sz xs)=true→Fo n w v (.list sz xs) B→RD w B NT v (.list sz xs)→mk xs k=some (xs',k')→0≤k→k'≤4611686018427387904→(∀ b,B b→b < w.heap.size) →
  Calls P f #[v,.int .i64 k] w fun ex w'=>ex=.returned (.int .i64 k')∧But B w w'∧RD w' B NT v (.list sz xs')∧∃ n',depD n' (.list sz xs')=true∧Fo n' w' v (.list sz xs') B
structure RowG (w:World) (T:Nat→Prop) (b cap e sz:Nat) (xs:Rows) (g:Nat→Nat→Nat→Prop):Prop where
 blk:∃ cur:Array Value,w.heap[b]? = some (.cells cur e (0,0))∧cur.size=cap * sz∧∀ i c x,zk xs i c=some x→∃ u,cur[i * sz+c]? = some u∧RD w (g i c) T u x∧∃ n,depD n x=true∧Fo n w u x (g i c)
 len:xs.length≤cap
 row:∀ (i:Nat) (x:List D),xs[i]? = some x→x.length=sz
 own:∀ i c k,g i c k→k≠b
 inj:∀ i c i' c' k,g i c k→g i' c' k→i=i'∧c=c'
def setD (xs:Rows) (i c:Nat) (d:D):Rows:=xs.set i ((xs.getD i []).set c d)
theorem zkc (xs:Rows) (i c:Nat) (d:D):(setD xs i c d).length=xs.length:=by simp [setD]
theorem zhd {xs:Rows} {sz:Nat} (h:∀ (i:Nat) (x:List D),xs[i]? = some x→x.length=sz) (i c:Nat) (d:D):∀ (j:Nat) (x:List D),(setD xs i c d)[j]? = some x→x.length=sz:=by
 intro j x hx
 unfold setD at hx
 by_cases hj:i=j
 ·subst hj
  by_cases hi:i < xs.length
  ·rw [List.getElem?_set_self hi] at hx
   cases hx
   rw [List.length_set,List.getD_eq_getElem?_getD,List.getElem?_eq_getElem hi]
   exact h i _ (List.getElem?_eq_getElem hi)
  ·rw [List.getElem?_eq_none (by simp;omega)] at hx;cases hx
 ·rw [List.getElem?_set_ne hj] at hx
  exact h j x hx
theorem zi2 {xs:Rows} {i c:Nat} {d:D} {j c':Nat} {x:D} (hx:zk (setD xs i c d) j c'=some x):(j=i∧c'=c∧x=d)∨(¬ (j=i∧c'=c)∧zk xs j c'=some x):=by
 unfold zk setD at hx
 obtain ⟨r,hr,hc⟩:=Option.bind_eq_some_iff.1 hx
 by_cases hj:i=j
 ·subst hj
  by_cases hi:i < xs.length
  ·rw [List.getElem?_set_self hi] at hr
   cases hr
   have hg:xs.getD i []=xs[i]:=by rw [List.getD_eq_getElem?_getD,List.getElem?_eq_getElem hi];rfl
   by_cases hcc:c=c'
   ·subst hcc
    by_cases hl:c < (xs.getD i []).length
    ·rw [List.getElem?_set_self hl] at hc
     cases hc
     exact .inl ⟨rfl,rfl,rfl⟩
    ·rw [List.getElem?_eq_none (by simp only [List.length_set];omega)] at hc;cases hc
   ·rw [List.getElem?_set_ne hcc,hg] at hc
    exact .inr ⟨fun h=>hcc h.2.symm,by unfold zk;rw [List.getElem?_eq_getElem hi];exact hc⟩
  ·rw [List.getElem?_eq_none (by simp;omega)] at hr;cases hr
 ·rw [List.getElem?_set_ne hj] at hr
  exact .inr ⟨fun h=>hj h.1.symm,by unfold zk;rw [hr];exact hc⟩
section
variable {w w':World} {T:Nat→Prop} {b cap e sz:Nat} {xs:Rows} {g:Nat→Nat→Nat→Prop}
theorem znH {sz i j c c':Nat} (hc:c < sz) (hc':c' < sz) (h:i * sz+c=j * sz+c'):i=j∧c=c':=by
 have hpos:0 < sz:=by omega
 have h1:(i * sz+c) / sz=i:=by rw [Nat.mul_comm,Nat.mul_add_div hpos,Nat.div_eq_of_lt hc,Nat.add_zero]
 have h2:(j * sz+c') / sz=j:=by rw [Nat.mul_comm,Nat.mul_add_div hpos,Nat.div_eq_of_lt hc',Nat.add_zero]
 have e:i=j:=by rw [← h1,← h2,h]
 subst e
 exact ⟨rfl,by omega⟩
theorem RowG.lt (h:RowG w T b cap e sz xs g):b < w.heap.size:=by obtain ⟨cur,h1,_⟩:=h.blk;exact z6 h1
theorem RowG.at (h:RowG w T b cap e sz xs g) {i c:Nat} {x:D} (hx:zk xs i c=some x):∃ u,w.cell? ⟨b,i * sz+c,none⟩=some u∧w.frozen? ⟨b,i * sz+c,none⟩=false∧RD w (g i c) T u x∧∃ n,depD n x=true∧Fo n w u x (g i c):=by
 obtain ⟨cur,h1,h2,h3⟩:=h.blk
 obtain ⟨u,hu,hr⟩:=h3 i c x hx
 exact ⟨u,by simp [World.cell?, h1,hu],by simp [World.frozen?, h1],hr⟩
theorem zdo {xs:Rows} {sz i c:Nat} {x:D} (hr:∀ (i:Nat) (x:List D),xs[i]? = some x→x.length=sz) (hx:zk xs i c=some x):i < xs.length∧c < sz:=by
 unfold zk at hx
 obtain ⟨r,h1,h2⟩:=Option.bind_eq_some_iff.1 hx
 have:=hr i r h1
 exact ⟨(List.getElem?_eq_some_iff.1 h1).1,by rw [← this];exact (List.getElem?_eq_some_iff.1 h2).1⟩
theorem RowG.world (h:RowG w T b cap e sz xs g) (hT:Stab T w w') (hb:w'.heap[b]? = w.heap[b]?) (hg:∀ i c k,g i c k→w'.heap[k]? = w.heap[k]?):RowG w' T b cap e sz xs g:=by
 obtain ⟨cur,h1,h2,h3⟩:=h.blk
 exact ⟨⟨cur,hb.trans h1,h2,fun i c x hx=>by
  obtain ⟨u,hu,hr,n,hd,hf⟩:=h3 i c x hx
  exact ⟨u,hu,hr.mono (fun k hk=>hg i c k hk) hT (fun _ h=>h) (fun _ h=>h),n,hd,hf.stab (fun k hk=>hg i c k hk) fun _ h=>h⟩⟩,h.len,h.row,h.own,h.inj⟩
theorem RowG.set (h:RowG w T b cap e sz xs g) (hTb:¬ T b) {i c:Nat} {x:D} (hx:zk xs i c=some x) {v:Value} {d:D} (hd:d.scal=true) (hv:RD w T T v d):RowG (w.setCell ⟨b,i * sz+c,none⟩ v) T b cap e sz (setD xs i c d) g:=by
 obtain ⟨cur,h1,h2,h3⟩:=h.blk
 obtain ⟨hi,hc⟩:=zdo h.row hx
 have hbl:=z6 h1
 have hne:∀ k,k≠b→(w.setCell ⟨b,i * sz+c,none⟩ v).heap[k]? = w.heap[k]? := fun k hk=>Below.heap_setCell _ _ _ _ hk
 have hat:(w.setCell ⟨b,i * sz+c,none⟩ v).heap[b]? = some (.cells (cur.setIfInBounds (i * sz+c) v) e (0,0)):=by
  simp [World.setCell,Array.getElem?_modify,h1]
 have hT:Stab T w (w.setCell ⟨b,i * sz+c,none⟩ v):=fun k hk=>hne k fun e=>hTb (e▸hk)
 refine ⟨⟨_,hat,by simpa using h2,fun j c' y hy=>?_⟩,by rw [zkc];exact h.len,zhd h.row i c d,h.own,h.inj⟩
 have hjl:=zdo (zhd h.row i c d) hy
 rcases zi2 hy with ⟨rfl,rfl,rfl⟩ | ⟨hnn,hy⟩
 ·have hlt:j * sz+c' < cur.size:=by
   have:(j+1) * sz≤cap * sz:=Nat.mul_le_mul_right _ (by have:=h.len;omega)
   rw [Nat.add_mul,Nat.one_mul] at this
   omega
  refine ⟨v,by rw [Array.getElem?_setIfInBounds_self_of_lt hlt],?_,0,?_,True.intro⟩
  ·cases y<;>first | cases hd;done | (cases hv;first | exact .int _ _ | exact .bool _);done | skip
   rename_i s
   generalize hs:D.str s=X at hv
   cases hv with
   | str b'=>exact RD.str b'
   | _=>cases hs
  ·cases y<;>first | rfl | cases hd
 ·obtain ⟨u,hu,hr,n,hdn,hf⟩:=h3 j c' y hy
  have hlt:=zdo h.row hy
  have hne2:i * sz+c≠j * sz+c':=fun he=>hnn (by obtain ⟨a,b⟩:=znH hc hlt.2 he;exact ⟨a.symm,b.symm⟩)
  refine ⟨u,by rw [Array.getElem?_setIfInBounds_ne hne2];exact hu,hr.mono (fun k hk=>hne k (h.own _ _ _ hk)) hT (fun _ h=>h) (fun _ h=>h),n,hdn,hf.stab (fun k hk=>hne k (h.own _ _ _ hk)) fun _ h=>h⟩
theorem RowG.call (h:RowG w T b cap e sz xs g) (hT:Stab T w w') {i c:Nat} {x:D} (hx:zk xs i c=some x) {v:Value} {d:D} {off:Nat} (hoff:off=i * sz+c) (hu:w.cell? ⟨b,off,none⟩=some v) (hb:But (g i c) w w') (hlt:∀ j c' k,g j c' k→k < w.heap.size) (hr:RD w' (g i c) T v d) {n:Nat} (hd:depD n d=true) (hf:Fo n w' v d (g i c)):RowG w' T b cap e sz (setD xs i c d) g:=by
 subst hoff
 obtain ⟨cur,h1,h2,h3⟩:=h.blk
 obtain ⟨hi,hc⟩:=zdo h.row hx
 have hbb:w'.heap[b]? = w.heap[b]? := hb.block b (z6 h1) fun hk=>h.own i c b hk rfl
 refine ⟨⟨cur,hbb.trans h1,h2,fun j c' y hy=>?_⟩,by rw [zkc];exact h.len,zhd h.row i c d,h.own,h.inj⟩
 rcases zi2 hy with ⟨rfl,rfl,rfl⟩ | ⟨hnn,hy⟩
 ·refine ⟨v,?_,hr,n,hd,hf⟩
  simpa [World.cell?, h1] using hu
 ·obtain ⟨u,hu',hr',n',hdn,hf'⟩:=h3 j c' y hy
  have hst:∀ k,g j c' k→w'.heap[k]? = w.heap[k]? := fun k hk=>hb.block k (hlt j c' k hk) fun hk'=>hnn (h.inj _ _ _ _ _ hk hk')
  exact ⟨u,hu',hr'.mono (fun k hk=>hst k hk) hT (fun _ h=>h) (fun _ h=>h),n',hdn,hf'.stab (fun k hk=>hst k hk) fun _ h=>h⟩
theorem Fo.rows {n:Nat} {v:Value} {B:Nat→Prop} (hd:depD n (.list sz xs)=true) (hf:Fo n w v (.list sz xs) B) (hr:RD w B T v (.list sz xs)):(xs=[]∧∃ A cap,v=.slice A 0 cap)∨∃ b cap e g,v=.slice (some ⟨b,0,none⟩) xs.length cap∧xs.length≤cap∧cap≤maxLen∧B b∧(∀ i c k,g i c k→B k)∧RowG w T b cap e sz xs g:=by
 by_cases hx:xs=[]
 ·subst hx
  generalize hl:D.list sz []=X at hr
  cases hr with
  | list A cap sz' xs' g h1 h3 h4 h5 h6=>cases hl;exact .inl ⟨rfl,A,cap,rfl⟩
  | _=>cases hl
 ·cases n with
  | zero=>simp [depD,hx] at hd
  | succ n =>
   rcases hf with hf | ⟨b,cap,cur,e,g,k1,k2,k3,k4,k5,k6,k7,k8,k9⟩
   ·exact absurd hf hx
   ·refine .inr ⟨b,cap,e,g,k1,k3,k4,k6,fun i c k hk=>(k7 i c k hk).1,⟨⟨cur,k2,k5,fun i c x hc=>?_⟩,k3,?_,fun i c k hk=>(k7 i c k hk).2,k8⟩⟩
    ·obtain ⟨u,hu,hfu⟩:=k9 i c x hc
     refine ⟨u,hu,?_,n,zdO hd hc,hfu⟩
     generalize hl:D.list sz xs=X at hr
     cases hr with
     | list A cap' sz' xs' g' h1 h3 h4 h5 h6 =>
      cases hl
      cases k1
      obtain ⟨ad,ha,_,hcell⟩:=h4 i c x hc
      cases ha
      rw [add_at] at hcell
      simp only [World.cell?, k2,Nat.zero_add,Option.isSome_none,Bool.false_eq_true,if_false] at hcell
      rw [hu] at hcell
      cases hcell
      exact hfu.rd (zdO hd hc) (h5 i c x hc)
     | _=>cases hl
    ·generalize hl:D.list sz xs=X at hr
     cases hr with
     | list A cap' sz' xs' g' h1 h3 h4 h5 h6=>cases hl;exact h3
     | _=>cases hl
theorem RowG.forest {B:Nat→Prop} (h:RowG w T b cap e sz xs g) (hcap:cap≤maxLen) (hB:B b) (hg:∀ i c k,g i c k→B k):RD w B T (.slice (some ⟨b,0,none⟩) xs.length cap) (.list sz xs)∧∃ n,depD n (.list sz xs)=true∧Fo n w (.slice (some ⟨b,0,none⟩) xs.length cap) (.list sz xs) B:=by
 obtain ⟨cur,h1,h2,h3⟩:=h.blk
 refine ⟨?_,?_⟩
 ·have hex:∀ p:Nat × Nat,∃ u:Value,∀ x,zk xs p.1 p.2=some x→cur[p.1 * sz+p.2]? = some u∧RD w (g p.1 p.2) T u x∧x.isFn=false:=by
   rintro ⟨i,c⟩
   cases hx:zk xs i c with
   | none=>exact ⟨undef,fun x hx=>by cases hx⟩
   | some x =>
    obtain ⟨u,hu,hr,n,hd,_⟩:=h3 i c x hx
    exact ⟨u,fun y hy=>by injection hy with hy;subst hy;exact ⟨hu,hr,zdP hd⟩⟩
  obtain ⟨f,hf⟩:=Classical.axiomOfChoice hex
  refine .list _ cap sz xs (fun i c=>f (i,c)) h.len h.row (fun i c x hx=>⟨_,rfl,hB,?_⟩) (fun i c x hx=>(hf (i,c) x hx).2.1.mono (Stab.refl _ _) (Stab.refl _ _) (fun k hk=>hg i c k hk) fun _ h=>h) (fun i c x hx=>(hf (i,c) x hx).2.2)
  rw [add_at]
  simp only [World.cell?, h1,Nat.zero_add,Option.isSome_none,Bool.false_eq_true,if_false]
  exact (hf (i,c) x hx).1
 ·
  have hup:∀ {n m:Nat} {x:D},n≤m→depD n x=true→depD m x=true:=by
   intro n
   induction n with
   | zero =>
    intro m x _ hd
    cases x with
    | list s l=>simp only [depD,List.isEmpty_iff] at hd;subst hd;cases m<;>rfl
    | fn _ _=>simp [depD] at hd
    | _=>cases m<;>rfl
   | succ n ih =>
    intro m x hm hd
    cases m with
    | zero=>omega
    | succ m =>
     cases x with
     | list s l =>
      simp only [depD,List.all_eq_true] at hd ⊢
      exact fun r hr y hy=>ih (by omega) (hd r hr y hy)
     | fn _ _=>simp [depD] at hd
     | _=>rfl
  have hcells:∃ n,∀ i c x,zk xs i c=some x→depD n x=true:=by
   have hex:∀ p:Nat × Nat,∃ n:Nat,∀ x,zk xs p.1 p.2=some x→depD n x=true:=by
    rintro ⟨i,c⟩
    cases hx:zk xs i c with
    | none=>exact ⟨0,fun x hx=>by cases hx⟩
    | some x =>
     obtain ⟨u,hu,hr,n,hd,_⟩:=h3 i c x hx
     exact ⟨n,fun y hy=>by injection hy with hy;subst hy;exact hd⟩
   obtain ⟨f,hf⟩:=Classical.axiomOfChoice hex
   have hmax:∀ m1 m2:Nat,∃ N,∀ i c,i < m1→c < m2→f (i,c)≤N:=by
    intro m1 m2
    induction m1 with
    | zero=>exact ⟨0,fun i c h=>by omega⟩
    | succ m1 ih =>
     obtain ⟨N,hN⟩:=ih
     have:∀ m2,∃ M,∀ c,c < m2→f (m1,c)≤M:=by
      intro m2
      induction m2 with
      | zero=>exact ⟨0,fun c h=>by omega⟩
      | succ m2 ih2 =>
       obtain ⟨M,hM⟩:=ih2
       refine ⟨max M (f (m1,m2)),fun c hc=>?_⟩
       by_cases hcm:c=m2
       ·subst hcm;omega
       ·have:=hM c (by omega);omega
     obtain ⟨M,hM⟩:=this m2
     refine ⟨max N M,fun i c hi hc=>?_⟩
     by_cases him:i=m1
     ·subst him;have:=hM c hc;omega
     ·have:=hN i c (by omega) hc;omega
   obtain ⟨N,hN⟩:=hmax xs.length sz
   refine ⟨N,fun i c x hx=>?_⟩
   obtain ⟨hi,hc⟩:=zdo h.row hx
   exact hup (hN i c hi hc) (hf (i,c) x hx)
  obtain ⟨n,hn⟩:=hcells
  refine ⟨n+1,?_,.inr ⟨b,cap,cur,e,g,rfl,h1,h.len,hcap,h2,hB,fun i c k hk=>⟨hg i c k hk,h.own i c k hk⟩,h.inj,fun i c y hy=>?_⟩⟩
  ·simp only [depD,List.all_eq_true]
   intro r hr y hy
   obtain ⟨i,hi⟩:=List.getElem?_of_mem hr
   obtain ⟨c,hc⟩:=List.getElem?_of_mem hy
   exact hn i c y (by unfold zk;rw [hi];exact hc)
  ·obtain ⟨u,hu,hr,m,hd,hf⟩:=h3 i c y hy
   exact ⟨u,hu,hf.up hd⟩
end
end Ovi
namespace Ovi
open Go Go.RowKit
abbrev zaL:=List D→Int→Option (List D × Int)
def mkN (step:zaL):Nat→Rows→Int→Option (Rows × Int)
 | 0,xs,k=>some (xs,k)
 | i+1,xs,k=>(mkN step i xs k).bind fun p=>(p.1[i]?).bind fun r=>(step r p.2).map fun q=>(p.1.set i q.1,q.2)
def zO (step:zaL) (xs:Rows) (k:Int):Option (Rows × Int):=mkN step xs.length xs k
def Up (step:zaL):Prop:=∀ r k r' k',step r k=some (r',k')→k≤k'∧r'.length=r.length
theorem zeP {step:zaL} {i:Nat} {xs ys:Rows} {k k':Int} (h:mkN step (i+1) xs k=some (ys,k')):∃ zs k1 r r',mkN step i xs k=some (zs,k1)∧zs[i]? = some r∧step r k1=some (r',k')∧ys=zs.set i r':=by
 unfold mkN at h
 obtain ⟨p,h1,h2⟩:=Option.bind_eq_some_iff.1 h
 obtain ⟨r,h3,h4⟩:=Option.bind_eq_some_iff.1 h2
 obtain ⟨q,h5,h6⟩:=Option.map_eq_some_iff.1 h4
 cases h6
 exact ⟨p.1,p.2,r,q.1,h1,h3,h5,rfl⟩
theorem zj1 {step:zaL} (hs:Up step):∀ {i:Nat} {xs ys:Rows} {k k':Int},mkN step i xs k=some (ys,k')→k≤k'∧ys.length=xs.length
 | 0,xs,ys,k,k',h=>by cases h;exact ⟨Int.le_refl _,rfl⟩
 | i+1,xs,ys,k,k',h=>by
  obtain ⟨zs,k1,r,r',h1,h2,h3,rfl⟩:=zeP h
  obtain ⟨q1,q2⟩:=zj1 hs h1
  exact ⟨Int.le_trans q1 (hs _ _ _ _ h3).1,by simp [q2]⟩
theorem zkR {step : zaL} (hs : Up step) {xs xs' : Rows} {k k' : Int} : ∀ {m i : Nat}, i ≤ m → mkN step m xs k = some (xs', k') → ∃ ys k1, mkN step i xs k = some (ys, k1) ∧ k1 ≤ k'
  | 0, i, hi, h => by obtain rfl : i = 0 := by omega
                      exact ⟨xs', k', h, Int.le_refl _⟩
  | m + 1, i, hi, h => by
    by_cases he : i = m + 1
    · subst he; exact ⟨xs', k', h, Int.le_refl _⟩
    · obtain ⟨zs, k1, r, r', h1, h2, h3, rfl⟩ := zeP h
      obtain ⟨ys, k2, q1, q2⟩ := zkR hs (m := m) (i := i) (by omega) h1
      exact ⟨ys, k2, q1, Int.le_trans q2 (hs _ _ _ _ h3).1⟩
theorem zcC {step:zaL} (hs:Up step) {xs xs' ys:Rows} {k k' k1:Int} {i:Nat} (hm:zO step xs k=some (xs',k')) (h:mkN step i xs k=some (ys,k1)) (hi:i < xs.length) :
  ∃ r r' k2,ys[i]? = some r∧step r k1=some (r',k2)∧mkN step (i+1) xs k=some (ys.set i r',k2)∧k≤k1∧k1≤k2∧k2≤k'∧ys.length=xs.length:=by
 obtain ⟨zs,k2,h1,h2⟩:=zkR hs (m:=xs.length) (i:=i+1) hi hm
 obtain ⟨ys',k1',r,r',q1,q2,q3,rfl⟩:=zeP h1
 rw [h] at q1
 cases q1
 obtain ⟨p1,p2⟩:=zj1 hs h
 exact ⟨r,r',k2,q2,q3,h1,p1,(hs _ _ _ _ q3).1,h2,p2⟩
theorem zU {step:zaL} (hs:Up step) {xs ys:Rows} {k k':Int} (h:zO step xs k=some (ys,k')):k≤k'∧ys.length=xs.length:=zj1 hs h
theorem But.setCell {B:Nat→Prop} {w:World} {b off:Nat} {v:Value} (hb:B b):But B w (w.setCell ⟨b,off,none⟩ v) :=
 ⟨rfl,rfl,rfl,by simp [World.setCell],fun k hk hn=>Below.heap_setCell _ _ _ _ fun e=>hn (by subst e;exact hb),fun k cur e hc=>by
  by_cases hk:k=b
  ·subst hk
   exact ⟨cur.setIfInBounds off v,by simp [World.setCell,Array.getElem?_modify,hc],by simp⟩
  ·exact ⟨cur,(Below.heap_setCell _ _ _ _ hk).trans hc,rfl⟩⟩
theorem zao {xs:Rows} {i c c':Nat} {d x:D} (hx:zk xs i c'=some x) (hc:c'≠c):zk (setD xs i c d) i c'=some x:=by
 unfold zk at hx ⊢
 obtain ⟨r,hr,hy⟩:=Option.bind_eq_some_iff.1 hx
 have hi:=(List.getElem?_eq_some_iff.1 hr).1
 have hg:xs.getD i []=r:=by rw [List.getD_eq_getElem?_getD,hr];rfl
 unfold setD
 rw [List.getElem?_set_self hi,hg]
 simp only [Option.bind_some]
 rw [List.getElem?_set_ne (Ne.symm hc)]
 exact hy
theorem zaS {xs:Rows} {i c:Nat} {d:D} {r:List D} (hr:xs[i]? = some r):setD xs i c d=xs.set i (r.set c d):=by
 unfold setD
 rw [List.getD_eq_getElem?_getD,hr];rfl
theorem za8 {xs:Rows} {i:Nat} {r r':List D} (hr:xs[i]? = some r):(xs.set i r')[i]? = some r':=List.getElem?_set_self (List.getElem?_eq_some_iff.1 hr).1
def zaT:zaL
 | [.int .i64 _],k=>some ([.int .i64 k],k+1)
 | _,_=>none
theorem zdH {r r':List D} {k k':Int} (h:zaT r k=some (r',k')):∃ z,r=[.int .i64 z]∧r'=[.int .i64 k]∧k'=k+1:=by
 unfold zaT at h
 split at h
 ·rename_i z
  cases h
  exact ⟨z,rfl,rfl,rfl⟩
 ·cases h
theorem zaY:Up zaT:=fun r k r' k' h=>by
 obtain ⟨z,rfl,rfl,rfl⟩:=zdH h
 exact ⟨by omega,rfl⟩
def zaP (mt:Int→List UInt8):zaL
 | [.str _,.int .i64 _,.bool _],k=>some ([.str (mt k),.int .i64 (k+1),.bool ((k+1+1) % 3==0)],k+1+1+1)
 | _,_=>none
theorem zdI {mt:Int→List UInt8} {r r':List D} {k k':Int} (h:zaP mt r k=some (r',k')):∃ s z t,r=[.str s,.int .i64 z,.bool t]∧r'=[.str (mt k),.int .i64 (k+1),.bool ((k+1+1) % 3==0)]∧k'=k+1+1+1:=by
 unfold zaP at h
 split at h
 ·rename_i s z t
  cases h
  exact ⟨s,z,t,rfl,rfl,rfl⟩
 ·cases h
theorem zaZ {mt:Int→List UInt8}:Up (zaP mt):=fun r k r' k' h=>by
 obtain ⟨s,z,t,rfl,rfl,rfl⟩:=zdI h
 exact ⟨by omega,rfl⟩
def zad:zaL
 | [.int .i64 _,.list 1 ys],k=>(zO zaT ys (k+1)).map fun q=>([.int .i64 k,.list 1 q.1],q.2)
 | _,_=>none
theorem zbk {r r':List D} {k k':Int} (h:zad r k=some (r',k')):∃ z ys ys',r=[.int .i64 z,.list 1 ys]∧zO zaT ys (k+1)=some (ys',k')∧r'=[.int .i64 k,.list 1 ys']:=by
 unfold zad at h
 split at h
 ·rename_i z ys
  obtain ⟨q,h1,h2⟩:=Option.map_eq_some_iff.1 h
  cases h2
  exact ⟨z,ys,q.1,rfl,h1,rfl⟩
 ·cases h
theorem zW:Up zad:=fun r k r' k' h=>by
 obtain ⟨z,ys,ys',rfl,h1,rfl⟩:=zbk h
 have:=(zU zaY h1).1
 exact ⟨by omega,rfl⟩
def zaO (mt:Int→List UInt8):zaL
 | [.list 3 rs,.list 2 fs],k=>(zO (zaP mt) rs k).bind fun p=>(zO zad fs p.2).map fun q=>([.list 3 p.1,.list 2 q.1],q.2)
 | _,_=>none
theorem zc0 {mt:Int→List UInt8} {r r':List D} {k k':Int} (h:zaO mt r k=some (r',k')):∃ x0 x1 y0 k1 y1,r=[.list 3 x0,.list 2 x1]∧zO (zaP mt) x0 k=some (y0,k1)∧zO zad x1 k1=some (y1,k')∧r'=[.list 3 y0,.list 2 y1]:=by
 unfold zaO at h
 split at h
 ·rename_i rs fs
  obtain ⟨p,h1,h2⟩:=Option.bind_eq_some_iff.1 h
  obtain ⟨q,h3,h4⟩:=Option.map_eq_some_iff.1 h2
  cases h4
  exact ⟨rs,fs,p.1,p.2,q.1,rfl,h1,h3,rfl⟩
 ·cases h
end Ovi
namespace Ovi
open Go Go.RowKit
def za2:Args→Option (List MCell)
 | []=>some []
 | .d (.int .i64 e)::.d (.list sz xs)::r=>(za2 r).map fun l=>.row e.toNat sz xs::l
 | .d x::r=>cond x.scal ((za2 r).map fun l=>.any x::l) none
 | _=>none
theorem zlk {x:D} {r:Args} (hx:x.scal=true) (hr:∀ s l r',r≠.d (.list s l)::r'):za2 (.d x::r)=(za2 r).map fun l=>.any x::l:=by
 cases x with
 | int k n =>
  cases k<;>try (simp only [za2,hx,cond_true];done)
  cases r with
  | nil=>simp [za2,hx]
  | cons a r' =>
   cases a with
   | d y =>
    cases y with
    | list s l=>exact absurd rfl (hr s l r')
    | _=>simp [za2,D.scal]
   | _=>simp [za2,D.scal]
 | bool b=>simp [za2,D.scal]
 | str b=>simp [za2,D.scal]
 | _=>cases hx
theorem zlJ:∀ {cs:List MCell},cs.all MCell.ok=true→∀ s l r',encM cs≠.d (.list s l)::r'
 | [],_,s,l,r',h=>by cases h
 | .row _ _ _::_,_,s,l,r',h=>by simp [encM] at h
 | .any x::r,ho,s,l,r',h=>by
  simp only [List.all_cons,Bool.and_eq_true] at ho
  simp only [encM,List.cons.injEq,AV.d.injEq] at h
  rw [h.1] at ho
  cases ho.1
theorem zd1:∀ {cs:List MCell},cs.all MCell.ok=true→za2 (encM cs)=some cs
 | [],_=>rfl
 | .row e sz xs::r,h=>by
  simp only [List.all_cons,Bool.and_eq_true] at h
  simp [encM,za2,zd1 h.2]
 | .any x::r,h=>by
  have h':=h
  simp only [List.all_cons,Bool.and_eq_true] at h
  simp only [encM]
  rw [zlk h.1 (zlJ h.2),zd1 h.2]
  rfl
abbrev MkC:=List MCell→Int→Option (List MCell × Int)
def za9 (b:Bool) (mk:MkC):Args→Option Res
 | .var 0 0::.d (.bool b')::.d (.int .i64 k)::xs=>cond (b'==b&&decide (0≤k)) ((za2 xs).bind fun cs=>(mk cs k).bind fun q=>cond (decide (q.2≤4611686018427387904)) (some (encR q.1++[(false,[.d (.int .i64 q.2)])])) none) none
 | _=>none
def zjr (P:Program) (f:FuncId) (b:Bool) (mk:MkC):Prop :=
 ∀ (cs:List MCell) (k:Int) (cs':List MCell) (k':Int),cs.all MCell.ok=true→mk cs k=some (cs',k')→0≤k→k'≤4611686018427387904→za4 cs cs' ∧
  ∀ (w:World) (T:Nat→Prop) (v:Value) (us:Array Value) (mo:Nat→Option Nat) (GG:GGs),(b=true→v=.agg us)→(b=false→us=#[v])→us.size=cs.length →
   (∀ j x,cs[j]? = some (.any x)→mo j=none∧∃ u,us[j]? = some u∧RD w T T u x)→zje w T cs us mo GG →
   (∀ j i c j' i' c' b,GG j i c b→GG j' i' c' b→j=j'∧i=i'∧c=c')→(∀ j j' b,mo j=some b→mo j'=some b→j=j')→(∀ j i c b,GG j i c b→b < w.heap.size∧∀ j',mo j'≠some b) →
   Calls P f #[v,.int .i64 k] w fun ex w'=>ex=.returned (.int .i64 k')∧But (Wr mo GG) w w'∧∃ GG':GGs,(∀ j i c b,GG' j i c b→∃ i' c',GG j i' c' b)∧(∀ j i c i' c' b,GG' j i c b→GG' j i' c' b→i=i'∧c=c')∧zje w' T cs' us mo GG'
theorem zeM {P:Program} {G:Gd} {f:FuncId} {b:Bool} {mk:MkC} (hk:zaE P f) (h:zjr P f b mk):PrimOk P G f (za9 b mk):=by
 refine ⟨hk,fun args r hr=>?_,(fun k e sz xs rest r hr e' he=>by cases hr),fun b' k xs r hr cs hcs hok=>?_⟩
 ·unfold za9 at hr
  split at hr
  ·intro w S T vs hS hT hl
   obtain ⟨u,hu,⟨cs,h⟩,_⟩:=hl.2 0 _ rfl
   cases h
  ·cases hr
 ·subst hcs
  simp only [za9,zak] at hr
  cases hb:(b'==b&&decide (0≤k)) with
  | false=>rw [hb] at hr;cases hr
  | true =>
   rw [hb] at hr
   simp only [Bool.and_eq_true,beq_iff_eq,decide_eq_true_eq] at hb
   obtain ⟨rfl,hk0⟩:=hb
   simp only [cond_true,zd1 hok,Option.bind_some] at hr
   obtain ⟨⟨cs',k'⟩,h1,h2⟩:=Option.bind_eq_some_iff.1 hr
   cases hk':decide (k'≤4611686018427387904) with
   | false=>simp only [hk'] at h2;cases h2
   | true =>
    simp only [hk',cond_true] at h2
    cases h2
    obtain ⟨q1,q2⟩:=h cs k cs' k' hok h1 hk0 (of_decide_eq_true hk')
    exact ⟨cs',k',rfl,q1,q2⟩
section
variable {w w':World} {T:Nat→Prop} {mo:Option Nat} {e sz:Nat} {xs xs':Rows} {u:Value} {G:Nat→Nat→Nat→Prop}
def Bof (mo:Option Nat) (G:Nat→Nat→Nat→Prop):Nat→Prop:=fun k=>mo=some k∨∃ i c,G i c k
theorem rowF.forest (h:rowF w T mo e sz xs u G) (hc:∀ i c k,G i c k→mo≠some k) (hi:∀ i c i' c' k,G i c k→G i' c' k→i=i'∧c=c') :
  RD w (Bof mo G) NT u (.list sz xs)∧∃ n,depD n (.list sz xs)=true∧Fo n w u (.list sz xs) (Bof mo G):=by
 obtain ⟨h1,h2,h3⟩:=h
 cases mo with
 | none =>
  subst h3
  obtain ⟨_,A,rfl⟩:=h2
  exact ⟨RD.nil A sz,0,rfl,True.intro⟩
 | some b =>
  obtain ⟨cap,cur,rfl,k2,k3,k4,k5⟩:=h2
  obtain ⟨cur',k6,k7⟩:=h3
  rw [k2] at k6
  cases k6
  refine RowG.forest (cap:=cap) (e:=e) (b:=b) (g:=G) ⟨⟨cur,k2,k5,fun i c x hx=>?_⟩,k3,h1,fun i c k hk he=>hc i c k hk (by rw [he]),hi⟩ k4 (.inl rfl) (fun i c k hk=>.inr ⟨i,c,hk⟩)
  obtain ⟨v,hv,hr,n,hd,hf⟩:=k7 i c x hx
  exact ⟨v,hv,hr.noFn (zdP hd),n,hd,hf⟩
theorem rowF.back (h:rowF w T mo e sz xs u G) {X:Nat→Prop} (hb:But X w w') (hl:xs'.length=xs.length) (hr:RD w' (Bof mo G) NT u (.list sz xs')) (hf:∃ n,depD n (.list sz xs')=true∧Fo n w' u (.list sz xs') (Bof mo G)) :
  ∃ G':Nat→Nat→Nat→Prop,(∀ i c k,G' i c k→∃ i' c',G i' c' k)∧(∀ i c i' c' k,G' i c k→G' i' c' k→i=i'∧c=c')∧rowF w' T mo e sz xs' u G':=by
 obtain ⟨h1,h2,h3⟩:=h
 obtain ⟨n,hd,hf⟩:=hf
 have own:OwnC w' mo e sz u xs'.length:=by
  rw [hl]
  exact h2.mono fun b cur e hm hc=>hb.kind b cur e hc
 rcases Fo.rows hd hf hr with ⟨rfl,_⟩ | ⟨b,cap,e1,g,he,hle,hcap,hB,hg,hrow⟩
 ·refine ⟨fun _ _ _=>False,fun _ _ _ h=>h.elim,fun _ _ _ _ _ h=>h.elim,fun i x hx=>by simp at hx,own,?_⟩
  cases mo with
  | none=>rfl
  | some b =>
   obtain ⟨cap,cur,_,k2,_⟩:=own
   exact ⟨cur,k2,fun i c x hx=>by simp [zk] at hx⟩
 ·cases mo with
  | none =>
   have hx:xs'=[]:=List.eq_nil_of_length_eq_zero (by rw [hl,h3];rfl)
   subst hx
   exact ⟨fun _ _ _=>False,fun _ _ _ h=>h.elim,fun _ _ _ _ _ h=>h.elim,fun i x hx=>by simp at hx,own,rfl⟩
  | some b0 =>
   obtain ⟨cap0,cur0,k1,k2,k3,k4,k5⟩:=own
   rw [he] at k1
   cases k1
   obtain ⟨cur1,p1,p2,p3⟩:=hrow.blk
   rw [k2] at p1
   cases p1
   refine ⟨g,fun i c k hk=>?_,hrow.inj,hrow.row,⟨cap,cur0,he,k2,k3,k4,k5⟩,cur0,k2,fun i c x hx=>?_⟩
   ·rcases hg i c k hk with h | h
    ·cases h;exact absurd rfl (hrow.own i c _ hk)
    ·exact h
   ·obtain ⟨v,hv,hrv,m,hdm,hfm⟩:=p3 i c x hx
    exact ⟨v,hv,hrv.noFn (zdP hdm),m,hdm,hfm⟩
end
def mkLs (sz:Nat) (mk:Rows→Int→Option (Rows × Int)):MkC
 | [.row e sz' xs],k=>cond (Nat.beq sz' sz) ((mk xs k).map fun q=>([.row e sz q.1],q.2)) none
 | _,_=>none
theorem ListC.cells {P:Program} {f:FuncId} {sz:Nat} {mk:Rows→Int→Option (Rows × Int)} (h:ListC P f sz mk) (hlen:∀ xs k xs' k',mk xs k=some (xs',k')→xs'.length=xs.length):zjr P f false (mkLs sz mk):=by
 intro cs k cs' k' hok hm hk hk2
 unfold mkLs at hm
 split at hm
 ·rename_i e sz' xs
  cases hs:Nat.beq sz' sz with
  | false=>rw [hs] at hm;cases hm
  | true =>
   rw [hs] at hm
   obtain rfl:=zC hs
   obtain ⟨⟨xs',k1⟩,h1,h2⟩:=Option.map_eq_some_iff.1 hm
   cases h2
   have hl:=hlen _ _ _ _ h1
   refine ⟨⟨rfl,rfl,hl,True.intro⟩,fun w T v us mo GG _ hb hsz hany hrows hgd hmo hlt=>?_⟩
   obtain rfl:=hb rfl
   obtain ⟨u,hu,hrow⟩:=hrows 0 e sz' xs rfl
   cases hu
   have hc:∀ i c k,GG 0 i c k→mo 0≠some k:=fun i c k hg=>(hlt 0 i c k hg).2 0
   have hi:∀ i c i' c' k,GG 0 i c k→GG 0 i' c' k→i=i'∧c=c':=fun i c i' c' k hg hg'=>(hgd _ _ _ _ _ _ _ hg hg').2
   obtain ⟨hr,n,hd,hf⟩:=hrow.forest hc hi
   have hB:∀ b,Bof (mo 0) (GG 0) b→b < w.heap.size:=fun b hb=>by
    rcases hb with hb | ⟨i,c,hb⟩
    ·obtain ⟨_,ho,_⟩:=hrow
     rw [hb] at ho
     obtain ⟨cap,cur,_,k2,_⟩:=ho
     exact z6 k2
    ·exact (hlt 0 i c b hb).1
   refine (h w v xs (Bof (mo 0) (GG 0)) n k xs' k1 hd hf hr h1 hk hk2 hB).mono fun ex w' ⟨he,hbut,hr',hf'⟩=>?_
   obtain ⟨G',g1,g2,g3⟩:=hrow.back hbut hl hr' hf'
   refine ⟨he,hbut.mono fun b hb=>?_,fun j=>match j with | 0=>G' | _+1=>fun _ _ _=>False,fun j i c b hg=>?_,fun j i c i' c' b hg hg'=>?_,fun j e1 sz1 xs1 hj=>?_⟩
   ·rcases hb with hb | ⟨i,c,hb⟩
    ·exact .inl ⟨0,hb⟩
    ·exact .inr ⟨0,i,c,hb⟩
   ·cases j with
    | zero=>exact g1 i c b hg
    | succ j=>exact hg.elim
   ·cases j with
    | zero=>exact g2 i c i' c' b hg hg'
    | succ j=>exact hg.elim
   ·cases j with
    | zero=>cases hj;exact ⟨v,rfl,g3⟩
    | succ j=>simp at hj
 ·cases hm
def CellF (w:World) (B:Nat→Prop) (u:Value) (x:D):Prop:=RD w B NT u x∧∃ n,depD n x=true∧Fo n w u x B
theorem CellF.but {w w':World} {B X:Nat→Prop} {u:Value} {x:D} (h:CellF w B u x) (hb:But X w w') (hlt:∀ k,B k→k < w.heap.size) (hX:∀ k,B k→¬ X k):CellF w' B u x:=by
 have hst:∀ k,B k→w'.heap[k]? = w.heap[k]? := fun k hk=>hb.block k (hlt k hk) (hX k hk)
 obtain ⟨hr,n,hd,hf⟩:=h
 exact ⟨hr.mono hst (fun k hk=>hk.elim) (fun _ h=>h) (fun _ h=>h),n,hd,hf.stab hst fun _ h=>h⟩
theorem CellF.sub {w:World} {B B':Nat→Prop} {u:Value} {x:D} (h:CellF w B u x) (hB:∀ k,B k→B' k):CellF w B' u x :=
 let ⟨hr,n,hd,hf⟩:=h;⟨hr.mono (Stab.refl _ _) (Stab.refl _ _) hB fun _ h=>h,n,hd,hf.stab (fun _ _=>rfl) hB⟩
theorem zaW (w:World) (cs:Array Value) (t:TypeId) {i:Nat} {v:Value} (h:cs[i]? = some v):(w.alloc (.cells cs t (0,0))).cell? ⟨w.heap.size,i,none⟩=some v:=by
 have hg:(w.alloc (.cells cs t (0,0))).heap[w.heap.size]? = some (.cells cs t (0,0)):=by
  show (w.heap.push _)[w.heap.size]? = _
  simp
 simp only [World.cell?, hg,Option.isSome_none,Bool.false_eq_true,if_false]
 exact h
theorem But.cell {w w':World} {X:Nat→Prop} {b off:Nat} {u:Value} (hb:But X w w') (hX:¬ X b) (h:w.cell? ⟨b,off,none⟩=some u):w'.cell? ⟨b,off,none⟩=some u:=by
 have hlt:b < w.heap.size:=by
  unfold World.cell? at h
  split at h
  ·rename_i hq;exact (Array.getElem?_eq_some_iff.1 hq).1
  ·cases h
 rw [← h]
 exact World.cell?_of_block (hb.block b hlt hX)
def AggC (P:Program) (f:FuncId) (mk:zaL):Prop :=
 ∀ (w:World) (us:Array Value) (ds:List D) (G:Nat→Nat→Prop) (k:Int) (ds':List D) (k':Int),us.size=ds.length→(∀ (c:Nat) x,ds[c]? = some x→∃ u,us[c]? = some u∧RD w (G c) NT u x∧∃ n,depD n x=true∧Fo n w u x (G c)) →
  (∀ c c' k,G c k→G c' k→c=c')→(∀ c b,G c b→b < w.heap.size)→mk ds k=some (ds',k')→0≤k→k'≤4611686018427387904 →
  Calls P f #[.agg us,.int .i64 k] w fun ex w'=>ex=.returned (.int .i64 k')∧But (fun b=>∃ c,G c b) w w'∧∀ (c:Nat) x,ds'[c]? = some x→∃ u,us[c]? = some u∧RD w' (G c) NT u x∧∃ n,depD n x=true∧Fo n w' u x (G c)
def toD:MCell→D
 | .row _ sz xs=>.list sz xs
 | .any x=>x
def ofD:List MCell→List D→List MCell
 | .row e _ _::r,.list sz xs::ds=>.row e sz xs::ofD r ds
 | .any _::r,x::ds=>.any x::ofD r ds
 | _,_=>[]
def LikeD:List MCell→List D→Prop
 | [],[]=>True
 | .row _ sz xs::r,.list sz' xs'::ds=>sz'=sz∧xs'.length=xs.length∧LikeD r ds
 | .any x::r,y::ds=>y=x∧LikeD r ds
 | _,_=>False
theorem LikeD.like:∀ {cs:List MCell} {ds:List D},LikeD cs ds→za4 cs (ofD cs ds)
 | [],[],_=>True.intro
 | [],_::_,h=>h.elim
 | .row _ _ _::r,[],h=>h.elim
 | .any _::r,[],h=>h.elim
 | .row e sz xs::r,.list sz' xs'::ds,h=>⟨rfl,h.1,h.2.1,h.2.2.like⟩
 | .row e sz xs::r,.int _ _::ds,h=>h.elim
 | .row e sz xs::r,.bool _::ds,h=>h.elim
 | .row e sz xs::r,.str _::ds,h=>h.elim
 | .row e sz xs::r,.fn _ _::ds,h=>h.elim
 | .any x::r,y::ds,h=>⟨h.1,h.2.like⟩
theorem LikeD.at:∀ {cs:List MCell} {ds:List D} {j e sz:Nat} {xs:Rows},LikeD cs ds→(ofD cs ds)[j]? = some (MCell.row e sz xs)→∃ ys,cs[j]? = some (MCell.row e sz ys)∧ds[j]? = some (.list sz xs)∧xs.length=ys.length
 | [],[],j,e,sz,xs,_,h=>by simp [ofD] at h
 | [],_::_,j,e,sz,xs,h,_=>h.elim
 | .row _ _ _::r,[],j,e,sz,xs,h,_=>h.elim
 | .any _::r,[],j,e,sz,xs,h,_=>h.elim
 | .row e0 sz0 xs0::r,.list sz' xs'::ds,j,e,sz,xs,h,hj=>by
  cases j with
  | zero =>
   simp only [ofD,List.getElem?_cons_zero,Option.some.injEq,MCell.row.injEq] at hj
   obtain ⟨rfl,rfl,rfl⟩:=hj
   exact ⟨xs0,by rw [h.1];rfl,rfl,h.2.1⟩
  | succ j=>exact LikeD.at (cs:=r) (ds:=ds) h.2.2 (by simpa [ofD] using hj)
 | .row e0 sz0 xs0::r,.int _ _::ds,j,e,sz,xs,h,_=>h.elim
 | .row e0 sz0 xs0::r,.bool _::ds,j,e,sz,xs,h,_=>h.elim
 | .row e0 sz0 xs0::r,.str _::ds,j,e,sz,xs,h,_=>h.elim
 | .row e0 sz0 xs0::r,.fn _ _::ds,j,e,sz,xs,h,_=>h.elim
 | .any x::r,y::ds,j,e,sz,xs,h,hj=>by
  cases j with
  | zero=>simp [ofD] at hj
  | succ j=>exact LikeD.at (cs:=r) (ds:=ds) h.2 (by simpa [ofD] using hj)
def mkAg (mk:zaL):MkC:=fun cs k=>(mk (cs.map toD) k).map fun q=>(ofD cs q.1,q.2)
theorem AggC.cells {P:Program} {f:FuncId} {mk:zaL} (h:AggC P f mk) (hlike:∀ cs k ds' k',cs.all MCell.ok=true→mk (cs.map toD) k=some (ds',k')→LikeD cs ds'):zjr P f true (mkAg mk):=by
 intro cs k cs' k' hok hm hk hk2
 obtain ⟨⟨ds',k1⟩,h1,h2⟩:=Option.map_eq_some_iff.1 hm
 cases h2
 have hlk:=hlike _ _ _ _ hok h1
 refine ⟨hlk.like,fun w T v us mo GG hb _ hsz hany hrows hgd hmo hlt=>?_⟩
 obtain rfl:=hb rfl
 have hcl:∀ j i c k,GG j i c k→mo j≠some k:=fun j i c k hg=>(hlt j i c k hg).2 j
 have hin:∀ j i c i' c' k,GG j i c k→GG j i' c' k→i=i'∧c=c':=fun j i c i' c' k hg hg'=>(hgd _ _ _ _ _ _ _ hg hg').2
 have hrowlt:∀ j b,mo j=some b→(∃ e sz xs,cs[j]? = some (MCell.row e sz xs))→b < w.heap.size:=fun j b hm ⟨e,sz,xs,hj⟩=>by
  obtain ⟨u,_,_,ho,_⟩:=hrows j e sz xs hj
  rw [hm] at ho
  obtain ⟨cap,cur,_,k2,_⟩:=ho
  exact z6 k2
 refine (h w us (cs.map toD) (fun c k=>(∃ e sz xs,cs[c]? = some (MCell.row e sz xs))∧Bof (mo c) (GG c) k) k ds' k1 (by simp [hsz]) (fun c x hx=>?_) (fun c c' k hg hg'=>?_) (fun c b hg=>?_) h1 hk hk2).mono fun ex w' ⟨he,hbut,hr'⟩=>?_
 ·rw [List.getElem?_map] at hx
  obtain ⟨y,hy,rfl⟩:=Option.map_eq_some_iff.1 hx
  cases y with
  | row e sz xs =>
   obtain ⟨u,hu,hrow⟩:=hrows c e sz xs hy
   obtain ⟨q1,n,q2,q3⟩:=hrow.forest (hcl c) (hin c)
   exact ⟨u,hu,q1.mono (Stab.refl _ _) (Stab.refl _ _) (fun k hk=>⟨⟨e,sz,xs,hy⟩,hk⟩) (fun _ h=>h),n,q2,q3.stab (fun _ _=>rfl) fun k hk=>⟨⟨e,sz,xs,hy⟩,hk⟩⟩
  | any x =>
   obtain ⟨_,u,hu,hr⟩:=hany c x hy
   have hsc:x.scal=true:=List.all_eq_true.1 hok _ (List.mem_of_getElem? hy)
   refine ⟨u,hu,?_,0,?_,True.intro⟩
   ·show RD w _ NT u x
    cases x with
    | int k n=>cases hr;exact .int k n
    | bool b=>cases hr;exact .bool b
    | str b =>
     generalize hs:D.str b=X at hr
     cases hr with
     | str b'=>exact RD.str b'
     | _=>cases hs
    | _=>cases hsc
   ·show depD 0 x=true
    cases x<;>first | rfl | cases hsc
 ·obtain ⟨_,hg⟩:=hg
  obtain ⟨_,hg'⟩:=hg'
  rcases hg with hg | ⟨i,a,hg⟩<;>rcases hg' with hg' | ⟨i',a',hg'⟩
  ·exact hmo c c' k hg hg'
  ·exact absurd hg ((hlt c' i' a' k hg').2 c)
  ·exact absurd hg' ((hlt c i a k hg).2 c')
  ·exact (hgd _ _ _ _ _ _ _ hg hg').1
 ·obtain ⟨hrw,hg⟩:=hg
  rcases hg with hg | ⟨i,a,hg⟩
  ·exact hrowlt c b hg hrw
  ·exact (hlt c i a b hg).1
 ·
  have hex:∀ j:Nat,∃ G':Nat→Nat→Nat→Prop,(∀ i c b,G' i c b→∃ i' c',GG j i' c' b)∧(∀ i c i' c' b,G' i c b→G' i' c' b→i=i'∧c=c')∧∀ e sz xs,(ofD cs ds')[j]? = some (MCell.row e sz xs)→∃ u,us[j]? = some u∧rowF w' T (mo j) e sz xs u G':=by
   intro j
   by_cases hjr:∃ e sz xs,(ofD cs ds')[j]? = some (MCell.row e sz xs)
   ·obtain ⟨e,sz,xs,hj⟩:=hjr
    obtain ⟨ys,k1,k2,k3⟩:=hlk.at hj
    obtain ⟨u,hu,hrow⟩:=hrows j e sz ys k1
    obtain ⟨u',hu',hr,n,hd,hf⟩:=hr' j _ k2
    rw [hu] at hu'
    cases hu'
    obtain ⟨G',g1,g2,g3⟩:=hrow.back hbut k3 (hr.mono (Stab.refl _ _) (Stab.refl _ _) (fun k hk=>hk.2) fun _ h=>h) ⟨n,hd,hf.stab (fun _ _=>rfl) fun k hk=>hk.2⟩
    exact ⟨G',g1,g2,fun e' sz' xs' hj'=>by rw [hj] at hj';cases hj';exact ⟨u,hu,g3⟩⟩
   ·exact ⟨fun _ _ _=>False,fun _ _ _ h=>h.elim,fun _ _ _ _ _ h=>h.elim,fun e sz xs hj=>absurd ⟨e,sz,xs,hj⟩ hjr⟩
  obtain ⟨GG',hGG⟩:=Classical.axiomOfChoice hex
  refine ⟨he,hbut.mono fun b ⟨c,_,hb⟩=>?_,GG',fun j=>(hGG j).1,fun j=>(hGG j).2.1,fun j e sz xs hj=>(hGG j).2.2 e sz xs hj⟩
  rcases hb with hb | ⟨i,a,hb⟩
  ·exact .inl ⟨c,hb⟩
  ·exact .inr ⟨c,i,a,hb⟩
end Ovi
namespace Ovi
open Go Go.RowKit
theorem zfH {step:zaL} {xs:Rows} {k:Int}:∀ {m:Nat} {ys:Rows} {k':Int},m≤xs.length→mkN step m xs k=some (ys,k') →
  ∃ κ:Nat→Int,κ 0=k∧κ m=k'∧(∀ i,i < m→∃ r r',xs[i]? = some r∧ys[i]? = some r'∧step r (κ i)=some (r',κ (i+1)))∧(∀ i,m≤i→ys[i]? = xs[i]?)∧ys.length=xs.length
 | 0,ys,k',_,h=>by cases h;exact ⟨fun _=>k,rfl,rfl,fun i hi=>by omega,fun i _=>rfl,rfl⟩
 | m+1,ys,k',hm,h=>by
  obtain ⟨zs,k1,r,r',h1,h2,h3,rfl⟩:=zeP h
  obtain ⟨κ,q0,q1,q2,q3,q4⟩:=zfH (m:=m) (by omega) h1
  refine ⟨fun i=>if i≤m then κ i else k',by simp [q0],if_neg (by omega),fun i hi=>?_,fun i hi=>?_,by simp [q4]⟩
  ·by_cases him:i=m
   ·subst him
    refine ⟨r,r',by rw [← q3 i (Nat.le_refl _)];exact h2,List.getElem?_set_self (by omega),?_⟩
    show step r (if i≤i then κ i else k')=some (r',if i+1≤i then κ (i+1) else k')
    rw [if_pos (Nat.le_refl _),if_neg (by omega),q1]
    exact h3
   ·obtain ⟨s,s',p1,p2,p3⟩:=q2 i (by omega)
    refine ⟨s,s',p1,by rw [List.getElem?_set_ne (by omega)];exact p2,?_⟩
    show step s (if i≤m then κ i else k')=some (s',if i+1≤m then κ (i+1) else k')
    rw [if_pos (by omega),if_pos (by omega)]
    exact p3
  ·rw [List.getElem?_set_ne (by omega)]
   exact q3 i (by omega)
theorem zbV {step:zaL} {xs ys:Rows} {k k':Int} (h:zO step xs k=some (ys,k')) :
  ∃ κ:Nat→Int,κ 0=k∧κ ys.length=k'∧ys.length=xs.length∧∀ i,i < ys.length→∃ r r',xs[i]? = some r∧ys[i]? = some r'∧step r (κ i)=some (r',κ (i+1)):=by
 obtain ⟨κ,q0,q1,q2,_,q4⟩:=zfH (Nat.le_refl _) h
 exact ⟨κ,q0,by rw [q4];exact q1,q4,fun i hi=>q2 i (by omega)⟩
theorem zbS {step : zaL} (hs : Up step) {xs ys : Rows} {κ : Nat → Int} (h : ∀ i, i < ys.length → ∃ r r', xs[i]? = some r ∧ ys[i]? = some r' ∧ step r (κ i) = some (r', κ (i + 1))) : ∀ {i j : Nat}, i ≤ j → j ≤ ys.length → κ i ≤ κ j := by
  intro i j hij
  induction j with
  | zero => intro _; obtain rfl : i = 0 := by omega
            exact Int.le_refl _
  | succ j ih =>
    intro hj
    by_cases he : i = j + 1
    · subst he; exact Int.le_refl _
    · obtain ⟨r, r', _, _, p3⟩ := h j (by omega)
      exact Int.le_trans (ih (by omega) (by omega)) (hs _ _ _ _ p3).1
theorem ziN {step:zaL} {c:List D→Nat} {xs:Rows} (h:∀ r∈xs,∀ k,∃ r',step r k=some (r',k+c r)) (k:Int):∀ m,m≤xs.length→∃ ys,mkN step m xs k=some (ys,k+((xs.take m).map c).sum)
 | 0,_=>⟨xs,by simp [mkN]⟩
 | m+1,hm=>by
  obtain ⟨ys,h1⟩:=ziN h k m (by omega)
  obtain ⟨κ,_,_,_,q3,_⟩:=zfH (by omega) h1
  have hx:xs[m]? = some xs[m]:=List.getElem?_eq_getElem (by omega)
  obtain ⟨r',h2⟩:=h xs[m] (List.getElem_mem (by omega)) (k+((xs.take m).map c).sum)
  refine ⟨ys.set m r',?_⟩
  unfold mkN
  rw [h1]
  simp only [Option.bind_some]
  rw [q3 m (Nat.le_refl _),hx]
  simp only [Option.bind_some,h2,Option.map_some,Option.some.injEq,Prod.mk.injEq,true_and]
  rw [List.take_succ_eq_append_getElem (by omega),List.map_append,List.sum_append]
  simp only [List.map_cons,List.map_nil,List.sum_cons,List.sum_nil,Nat.add_zero,Int.natCast_add,Int.add_assoc]
theorem zcr {step:zaL} {c:List D→Nat} {xs:Rows} (h:∀ r∈xs,∀ k,∃ r',step r k=some (r',k+c r)) (k:Int):∃ ys,zO step xs k=some (ys,k+(xs.map c).sum):=by
 obtain ⟨ys,h1⟩:=ziN h k xs.length (Nat.le_refl _)
 rw [List.take_length] at h1
 exact ⟨ys,h1⟩
end Ovi
namespace Ovi
open Go Go.RowKit
theorem zdp {c:MCell} {sz:Nat} {xs:Rows} (ho:c.ok=true) (h:toD c=.list sz xs):∃ e,c=.row e sz xs:=by
 cases c with
 | row e s x=>simp only [toD,D.list.injEq] at h;obtain ⟨rfl,rfl⟩:=h;exact ⟨e,rfl⟩
 | any x=>simp only [toD] at h;subst h;cases ho
theorem zbF {step:zaL} {xs ys:Rows} {k k':Int} (h:zO step xs k=some (ys,k')):ys.length=xs.length:=by
 obtain ⟨_,_,_,h,_⟩:=zbV h
 exact h
theorem zmy {mt:Int→List UInt8} (cs:List MCell) (k:Int) (ds':List D) (k':Int) (ho:cs.all MCell.ok=true) (h:zaO mt (cs.map toD) k=some (ds',k')):LikeD cs ds':=by
 obtain ⟨x0,x1,y0,k1,y1,e,h1,h2,rfl⟩:=zc0 h
 have hl:=congrArg List.length e
 simp only [List.length_map,List.length_cons,List.length_nil] at hl
 match cs,hl with
 | [c0,c1],_ =>
  simp only [List.map_cons,List.map_nil,List.cons.injEq,and_true] at e
  simp only [List.all_cons,List.all_nil,Bool.and_true,Bool.and_eq_true] at ho
  obtain ⟨e0,rfl⟩:=zdp ho.1 e.1
  obtain ⟨e1,rfl⟩:=zdp ho.2 e.2
  exact ⟨rfl,zbF h1,rfl,zbF h2,True.intro⟩
end Ovi
namespace Ovi
open Go Go.RowKit
def zbd:zaL
 | [.list 2 b,.list 2 h,.bool _,.int .i64 _,.int .i64 _],k=>(zO zad b k).bind fun p=>(zO zad h p.2).map fun q=>([.list 2 p.1,.list 2 q.1,.bool (q.2 % 3==0),.int .i64 (q.2+1),.int .i64 (q.2+1+1)],q.2+1+1+1)
 | _,_=>none
theorem zfU {r r':List D} {k k':Int} (h:zbd r k=some (r',k')):∃ b hd t y z b' k1 hd' k2,r=[.list 2 b,.list 2 hd,.bool t,.int .i64 y,.int .i64 z]∧zO zad b k=some (b',k1)∧zO zad hd k1=some (hd',k2)∧r'=[.list 2 b',.list 2 hd',.bool (k2 % 3==0),.int .i64 (k2+1),.int .i64 (k2+1+1)]∧k'=k2+1+1+1:=by
 unfold zbd at h
 split at h
 ·rename_i b hd t y z
  obtain ⟨p,h1,h2⟩:=Option.bind_eq_some_iff.1 h
  obtain ⟨q,h3,h4⟩:=Option.map_eq_some_iff.1 h2
  cases h4
  exact ⟨b,hd,t,y,z,p.1,p.2,q.1,q.2,rfl,h1,h3,rfl,rfl⟩
 ·cases h
theorem zh2:Up zbd:=fun r k r' k' h=>by
 obtain ⟨b,hd,t,y,z,b',k1,hd',k2,rfl,h1,h2,rfl,rfl⟩:=zfU h
 have:=(zU zW h1).1
 have:=(zU zW h2).1
 exact ⟨by omega,rfl⟩
end Ovi
namespace Ovi
open Go Go.RowKit
end Ovi
namespace Ovi
open Go Go.RowKit
def zbO (mt:Int→List UInt8):zaL
 | [.list 3 rs,.list 2 fs,.int .i64 c,.list 2 st],k=>(zaO mt [.list 3 rs,.list 2 fs] k).bind fun p=>(zO zad st p.2).map fun q=>(p.1++[.int .i64 c,.list 2 q.1],q.2)
 | _,_=>none
theorem zfV {mt:Int→List UInt8} {r r':List D} {k k':Int} (h:zbO mt r k=some (r',k')):∃ x0 x1 c x3 y0 ka y1 k1 y3,r=[.list 3 x0,.list 2 x1,.int .i64 c,.list 2 x3]∧zO (zaP mt) x0 k=some (y0,ka)∧zO zad x1 ka=some (y1,k1)∧zaO mt [.list 3 x0,.list 2 x1] k=some ([.list 3 y0,.list 2 y1],k1)∧zO zad x3 k1=some (y3,k')∧r'=[.list 3 y0,.list 2 y1,.int .i64 c,.list 2 y3]:=by
 unfold zbO at h
 split at h
 ·rename_i rs fs c st
  obtain ⟨p,h1,h2⟩:=Option.bind_eq_some_iff.1 h
  obtain ⟨q,h3,h4⟩:=Option.map_eq_some_iff.1 h2
  obtain ⟨p1,p2⟩:=p
  obtain ⟨z0,z1,y0,ka,y1,e,g1,g2,rfl⟩:=zc0 h1
  simp only [List.cons.injEq,and_true,D.list.injEq,true_and] at e
  obtain ⟨rfl,rfl⟩:=e
  cases h4
  exact ⟨rs,fs,c,st,y0,ka,y1,p2,q.1,rfl,g1,g2,h1,h3,rfl⟩
 ·cases h
theorem znB {mt:Int→List UInt8} (cs:List MCell) (k:Int) (ds':List D) (k':Int) (ho:cs.all MCell.ok=true) (h:zbO mt (cs.map toD) k=some (ds',k')):LikeD cs ds':=by
 obtain ⟨x0,x1,c,x3,y0,ka,y1,k1,y3,e,h1,h2,_,h3,rfl⟩:=zfV h
 have hl:=congrArg List.length e
 simp only [List.length_map,List.length_cons,List.length_nil] at hl
 match cs,hl with
 | [c0,c1,c2,c3],_ =>
  simp only [List.map_cons,List.map_nil,List.cons.injEq,and_true] at e
  simp only [List.all_cons,List.all_nil,Bool.and_true,Bool.and_eq_true] at ho
  obtain ⟨e0,rfl⟩:=zdp ho.1 e.1
  obtain ⟨e1,rfl⟩:=zdp ho.2.1 e.2.1
  have r2:c2=.any (.int .i64 c):=by
   cases c2 with
   | row _ _ _=>cases e.2.2.1
   | any x=>exact congrArg MCell.any e.2.2.1
  subst r2
  obtain ⟨e3,rfl⟩:=zdp ho.2.2.2 e.2.2.2
  exact ⟨rfl,zbF h1,rfl,zbF h2,rfl,rfl,zbF h3,True.intro⟩
end Ovi
namespace Ovi
open Go Go.RowKit
def zdc:AV→AV
 | .d (.list sz l)=>.s sz l
 | a=>a
def zeX:AV→AV
 | .agg l=>.agg (l.map zdc)
 | a=>zdc a
section
variable {w:World} {hp:Hp} {m:MapM}
theorem zlW {u:Value} {a:AV} (h:leafC w (Here w) (Here w) hp m u a):leafC w (Here w) (Here w) hp m u (zdc a):=by
 cases a with
 | d x =>
  cases x with
  | list sz l=>exact ⟨h,fun _ h=>h,h⟩
  | _=>exact h
 | _=>exact h
theorem zkv {u:Value} {a:AV} (h:AC w (Here w) (Here w) hp m u a):AC w (Here w) (Here w) hp m u (zeX a):=by
 cases a with
 | agg l =>
  obtain ⟨vs,h1,h2,h3⟩:=h
  refine ⟨vs,h1,by simp [h2],fun j a ha=>?_⟩
  rw [List.getElem?_map] at ha
  obtain ⟨b,hb,rfl⟩:=Option.map_eq_some_iff.1 ha
  obtain ⟨v,hv,hl⟩:=h3 j b hb
  exact ⟨v,hv,zlW hl⟩
 | d x =>
  cases x with
  | list sz l=>exact ⟨h,fun _ h=>h,h⟩
  | _=>exact h
 | _=>exact h
end
end Ovi
namespace Ovi
open Go Go.RowKit
def noQ:Blk→Bool
 | .var _=>true
 | .arr _ _ _ _ q=>Nat.beq q.1 0
 | .frz _ _ _=>false
def zlp (l:List (Nat × AV)):List (Nat × AV):=l.map fun p=>(p.1,zeX p.2)
def zhU (bs:List NB):Bool:=zaR (bs.map fun b=>b.1)&&(zaR (srcs bs)&&bs.all fun b=>noQ b.2.2)
def zp0:Blk→Blk
 | .var cs=>.var (cs.map zdc)
 | b=>b
def zbs (hp:Hp):Hp:=fun id=>match hp id with
 | some b=>some (zp0 b)
 | none=>none
def reseed (call:zi) (h:zap) (σ:St):Option St:=match (zbq σ.tm h).run call σ.hp [] with
 | some (l,hp,_)=>match zb1 hp l with
  | some (vs,bs)=>cond (zhU bs) (some { tm:=za5 (zlp vs),hp:=zbs (hpOf (bs.map fun b=>(b.1,b.2.2))) }) none
  | none=>none
 | none=>none
def zir {R:Type} (call:zi) (h:zap) (tm:Tm) (hp:Hp) (K:Tm→Hp→Option R):Option R :=
 (zbq tm h).runK call hp [] fun l hp' _=>match zb1 hp' l with
  | some (vs,bs)=>cond (zhU bs) (K (za5 (zlp vs)) (zbs (hpOf (bs.map fun b=>(b.1,b.2.2))))) none
  | none=>none
theorem zll {R:Type} (call:zi) (h:zap) (σ:St) (K:Tm→Hp→Option R):zir call h σ.tm σ.hp K=(reseed call h σ).bind fun r=>K r.tm r.hp:=by
 unfold zir reseed
 rw [HA.runK_eq]
 cases (zbq σ.tm h).run call σ.hp [] with
 | none=>rfl
 | some x =>
  simp only [Option.bind_some]
  cases zb1 x.2.1 x.1 with
  | none=>rfl
  | some y =>
   obtain ⟨vs,bs⟩:=y
   simp only []
   cases zhU bs<;>rfl
section
variable (P:Program) (hs:Hints) (call:zi) (fid:FuncId) (rs:Nat→Option zap)
def zaD (k:Nat):Code→St→Option (Ex × St)
 | .region id ops draw,σ=>match rs id with
  | some h=>match reseed call h σ with
   | some σ'=>zam P hs call fid k (.region id ops draw) σ'
   | none=>none
  | none=>zam P hs call fid k (.region id ops draw) σ
 | .seq a b,σ=>match zaD k a σ with
  | some (.normal,σ')=>zaD k b σ'
  | r=>r
 | .cond c a b,σ=>match zI σ.tm c with
  | some (.d (.bool t))=>cond t (zaD k a σ) (zaD k b σ)
  | _=>none
 | .block id c,σ=>match zaD k c σ with
   | some (.exit i,σ')=>cond (Nat.beq i id) (some (.normal,σ')) (some (.exit i,σ'))
   | r=>r
 | c,σ=>zam P hs call fid k c σ
def zbg {R:Type} (k:Nat):Code→Tm→Hp→Cont R→Option R
 | .region id ops draw,tm,hp,K=>match rs id with
  | some h=>zir call h tm hp fun tm' hp'=>zaA P hs call fid k (.region id ops draw) tm' hp' K
  | none=>zaA P hs call fid k (.region id ops draw) tm hp K
 | .seq a b,tm,hp,K=>zbg k a tm hp (seqK (zbg k b) K)
 | .cond c a b,tm,hp,K=>match zI tm c with
  | some (.d (.bool t))=>ite' t (zbg k a tm hp K) (zbg k b tm hp K)
  | _=>none
 | .block id c,tm,hp,K=>zbg k c tm hp (zfj id K)
 | c,tm,hp,K=>zaA P hs call fid k c tm hp K
def zk7 (k:Nat) (fn:Func) (args:List AV):Option Res :=
 match fn.body with
 | none=>none
 | some c=>match zaD P hs call fid rs k c (enter args) with
  | some (.normal,σ)=>zbh P hs call fid fn σ
  | some (.ret,σ)=>zbh P hs call fid fn σ
  | _=>none
def za1 (k:Nat) (fn:Func) (args:List AV):Option Res:=zbg P hs call fid rs k (zfk fn) (zc2 args 0) (fun _=>none) (endK P hs call fid fn)
theorem zko {R:Type} (k:Nat):∀ (c:Code) (σ:St) (K:Cont R),zbg P hs call fid rs k c σ.tm σ.hp K=(zaD P hs call fid rs k c σ).bind fun r=>K r.1 r.2.tm r.2.hp:=by
 intro c
 induction c with
 | region id ops draw =>
  intro σ K
  unfold zbg zaD
  cases rs id with
  | none=>exact zc4 P call hs fid k _ σ K
  | some h =>
   simp only []
   rw [zll]
   cases reseed call h σ with
   | none=>rfl
   | some σ'=>exact zc4 P call hs fid k _ σ' K
 | seq x y ihx ihy =>
  intro σ K
  unfold zbg zaD
  rw [ihx]
  cases zaD P hs call fid rs k x σ with
  | none=>rfl
  | some r =>
   obtain ⟨e,σ'⟩:=r
   cases e with
   | normal=>exact ihy σ' K
   | ret=>rfl
   | exit i=>rfl
 | cond c x y ihx ihy =>
  intro σ K
  unfold zbg zaD
  split
  ·rename_i t ht
   cases t with
   | true=>exact ihx σ K
   | false=>exact ihy σ K
  ·rfl
 | block id c ih =>
  intro σ K
  unfold zbg zaD
  rw [ih]
  cases zaD P hs call fid rs k c σ with
  | none=>rfl
  | some r =>
   obtain ⟨e,σ'⟩:=r
   cases e with
   | normal=>rfl
   | ret=>rfl
   | exit i =>
    simp only [Option.bind_some,zfj]
    cases Nat.beq i id<;>rfl
 | _=>intro σ K;exact zc4 P call hs fid k _ σ K
theorem zlK (k:Nat) (fn:Func) (args:List AV):za1 P hs call fid rs k fn args=match fn.body with | some _=>zk7 P hs call fid rs k fn args | none=>za1 P hs call fid rs k fn args:=by
 cases hb:fn.body with
 | none=>rfl
 | some c =>
  unfold za1 zk7 zfk
  rw [hb]
  simp only []
  rw [show zc2 args 0=(enter args).tm from rfl,show (fun _=>none:Hp)=(enter args).hp from rfl,zko P hs call fid rs k c (enter args) (endK P hs call fid fn)]
  cases zaD P hs call fid rs k c (enter args) with
  | none=>rfl
  | some r =>
   obtain ⟨e,σ⟩:=r
   have fin:zdj P hs call fid fn σ.tm σ.hp=zbh P hs call fid fn σ:=by
    unfold zdj zbh
    rw [HA.runK_eq]
    cases (zht P (hs.sig fid) σ.tm fn.results.toList).run call σ.hp []<;>rfl
   cases e with
   | normal=>exact fin
   | ret=>exact fin
   | exit i=>rfl
end
section
variable {w:World} {S T T':Nat→Prop} {hp:Hp} {m:MapM}
theorem capC.moreT (hT:∀ k,T k→T' k) {v:Value} {a:AV} (h:capC w S T hp m v a):capC w S T' hp m v a:=by
 cases a with
 | var id off=>exact h
 | cap xs off=>exact CellsAt.mono (Stab.refl _ _) (Stab.refl _ _) (Stab.refl _ _) hT (fun _ h=>h) hT h
 | _=>exact h.elim
theorem leafC.moreT (hT:∀ k,T k→T' k) (hS:∀ k,T' k→S k) {v:Value} {a:AV} (h:leafC w S T hp m v a):leafC w S T' hp m v a:=by
 have rd:∀ {B:Nat→Prop} {v:Value} {x:D},RD w B T v x→RD w B T' v x:=fun h=>h.mono (Stab.refl _ _) (Stab.refl _ _) (fun _ h=>h) hT
 cases a with
 | d x=>exact rd h
 | pv sz l id ver cv i=>exact ⟨rd h.1,h.2⟩
 | s sz l=>exact ⟨rd h.1,hS,h.2.2.mono (Stab.refl _ _) (Stab.refl _ _) hT hT⟩
 | nil _=>exact h
 | own id ver =>
  simp only [leafC] at h ⊢
  refine ⟨h.1,?_⟩
  replace h:=h.2
  cases hid:hp id with
  | none=>rw [hid] at h;exact h
  | some blk =>
   rw [hid] at h
   cases blk with
   | var cs=>exact h
   | arr e sz ver' xs q=>exact h
   | frz sz ver' xs=>exact fun e=>rd (h e)
 | var id off=>exact h
 | el id ver i off =>
  simp only [leafC] at h ⊢
  refine ⟨h.1,?_⟩
  replace h:=h.2
  cases hid:hp id with
  | none=>rw [hid] at h;exact h
  | some blk =>
   rw [hid] at h
   cases blk with
   | var cs=>exact h
   | arr e sz ver' xs q=>exact h
   | frz sz ver' xs=>exact fun e=>CellsAt.mono (Stab.refl _ _) (Stab.refl _ _) (Stab.refl _ _) (fun _ h=>h) (fun _ h=>h) hT (h e)
 | imm l i off=>exact CellsAt.mono (Stab.refl _ _) (Stab.refl _ _) (Stab.refl _ _) (fun _ h=>h) (fun _ h=>h) hT h
 | cap xs off=>exact CellsAt.mono (Stab.refl _ _) (Stab.refl _ _) (Stab.refl _ _) hT (fun _ h=>h) hT h
 | fn f caps =>
  obtain ⟨vs,h1,h2,h3⟩:=h
  exact ⟨vs,h1,h2,fun j a ha=>let ⟨u,hu,hc⟩:=h3 j a ha;⟨u,hu,hc.moreT hT⟩⟩
 | agg _=>exact h
 | tup _=>exact h
theorem leafC.seed {v:Value} {a:AV} (h:leafC w S S hp m v a):leafC w S S hp m v (zdc a):=by
 cases a with
 | d x =>
  cases x with
  | list sz l=>exact ⟨h,fun _ h=>h,h⟩
  | _=>exact h
 | _=>exact h
theorem AC.reseed (hT:∀ k,T k→S k) {v:Value} {a:AV} (h:AC w S T hp m v a):AC w S S hp m v (zeX a):=by
 have lf:∀ {v:Value} {a:AV},leafC w S T hp m v a→leafC w S S hp m v a:=fun h=>h.moreT hT (fun _ h=>h)
 have vl:∀ {v:Value} {a:AV},valC w S T hp m v a→valC w S S hp m v a:=by
  intro v a h
  cases a with
  | agg cs =>
   obtain ⟨vs,h1,h2,h3⟩:=h
   exact ⟨vs,h1,h2,fun j a ha=>let ⟨u,hu,hc⟩:=h3 j a ha;⟨u,hu,lf hc⟩⟩
  | d x=>exact lf (a:=.d x) h
  | pv x1 x2 x3 x4 x5 x6=>exact lf (a:=.pv x1 x2 x3 x4 x5 x6) h
  | s x1 x2=>exact lf (a:=.s x1 x2) h
  | nil x1=>exact lf (a:=.nil x1) h
  | own x1 x2=>exact lf (a:=.own x1 x2) h
  | var x1 x2=>exact lf (a:=.var x1 x2) h
  | el x1 x2 x3 x4=>exact lf (a:=.el x1 x2 x3 x4) h
  | imm x1 x2 x3=>exact lf (a:=.imm x1 x2 x3) h
  | cap x1 x2=>exact lf (a:=.cap x1 x2) h
  | fn x1 x2=>exact lf (a:=.fn x1 x2) h
  | tup x1=>exact h.elim
 cases a with
 | tup l =>
  obtain ⟨vs,h1,h2,h3⟩:=h
  exact ⟨vs,h1,h2,fun j a ha=>let ⟨u,hu,hc⟩:=h3 j a ha;⟨u,hu,vl hc⟩⟩
 | agg cs =>
  obtain ⟨vs,h1,h2,h3⟩:=h
  refine ⟨vs,h1,by simp [h2],fun j a ha=>?_⟩
  rw [List.getElem?_map] at ha
  obtain ⟨b,hb,rfl⟩:=Option.map_eq_some_iff.1 ha
  obtain ⟨u,hu,hc⟩:=h3 j b hb
  exact ⟨u,hu,(lf hc).seed⟩
 | d x =>
  have h1:leafC w S S hp m v (.d x):=lf (a:=.d x) h
  cases x with
  | list sz l=>exact ⟨h1,fun _ h=>h,h1⟩
  | _=>exact h1
 | pv x1 x2 x3 x4 x5 x6=>exact lf (a:=.pv x1 x2 x3 x4 x5 x6) h
 | s x1 x2=>exact lf (a:=.s x1 x2) h
 | nil x1=>exact lf (a:=.nil x1) h
 | own x1 x2=>exact lf (a:=.own x1 x2) h
 | var x1 x2=>exact lf (a:=.var x1 x2) h
 | el x1 x2 x3 x4=>exact lf (a:=.el x1 x2 x3 x4) h
 | imm x1 x2 x3=>exact lf (a:=.imm x1 x2 x3) h
 | cap x1 x2=>exact lf (a:=.cap x1 x2) h
 | fn x1 x2=>exact lf (a:=.fn x1 x2) h
theorem Inv.reseed {base:Nat} {w0:World} {S0:Nat→Prop} (h:Inv base w0 w S0 S T hp m) (hT:∀ k,T k→S k) (hq:∀ id blk,hp id=some blk→noQ blk=true):Inv base w0 w S0 S S hp m where
 below:=h.below
 bsz:=h.bsz
 tlt:=fun k hk=>.inr hk
 s0:=h.s0
 s1:=h.s1
 s0lt:=h.s0lt
 slt:=h.slt
 rng:=h.rng
 inj:=h.inj
 var:=fun id cs hid=>let ⟨b,c,e,h1,h2,h3⟩:=h.var id cs hid;⟨b,c,e,h1,h2,h3.mono fun v a ha=>ha.moreT hT fun _ h=>h⟩
 arr:=fun id e sz ver xs q hid=>by
  obtain ⟨h1,h2⟩:=h.arr id e sz ver xs q hid
  refine ⟨h1,?_⟩
  cases hm:m id with
  | none=>rw [hm] at h2;exact h2
  | some b =>
   rw [hm] at h2
   obtain ⟨cur,hc,hl,hk⟩:=h2
   exact ⟨cur,hc,hl,fun i c x hx=>⟨(hk i c x hx).1,let ⟨v,hv,hr⟩:=(hk i c x hx).2;⟨v,hv,hr.mono (Stab.refl _ _) (Stab.refl _ _) (fun _ h=>h) hT⟩⟩⟩
 cl:=⟨fun _ _ _ _=>False,fun _ _ _ _ h=>h.elim,fun _ _ _ _ _ _ _ h=>h.elim,fun id e sz ver xs d lo cv b cur hid hd=>by
  have:=hq id _ hid
  have:=zC (show Nat.beq d 0=true from this)
  omega⟩
end
section
variable {w:World} {S T:Nat→Prop} {hp:Hp} {m:MapM}
theorem zlo {id:Nat} {cs:List AV} (h:zbs hp id=some (.var cs)):∃ cs0,hp id=some (.var cs0)∧cs=cs0.map zdc:=by
 unfold zbs at h
 cases hid:hp id with
 | none=>rw [hid] at h;cases h
 | some b =>
  rw [hid] at h
  cases b with
  | var c=>cases h;exact ⟨c,rfl,rfl⟩
  | arr _ _ _ _ _=>cases h
  | frz _ _ _=>cases h
theorem zhV {id e sz ver:Nat} {xs:Rows} {q:Nat × Nat × Nat} (h:zbs hp id=some (.arr e sz ver xs q)):hp id=some (.arr e sz ver xs q):=by
 unfold zbs at h
 cases hid:hp id with
 | none=>rw [hid] at h;cases h
 | some b =>
  rw [hid] at h
  cases b with
  | var c=>cases h
  | arr _ _ _ _ _=>cases h;rfl
  | frz _ _ _=>cases h
theorem zeY (id:Nat):hot (zbs hp id)=hot (hp id):=by
 unfold zbs
 cases hp id with
 | none=>rfl
 | some b=>cases b<;>rfl
theorem leafC.hpS {v:Value} {a:AV} (h:leafC w S T hp m v a):leafC w S T (zbs hp) m v a:=by
 refine leafC.mono (Stab.refl _ _) (Stab.refl _ _) (fun _ h=>h) (fun id ⟨cs,h⟩=>⟨⟨cs.map zdc,by unfold zbs;rw [h];rfl⟩,rfl⟩) (fun id ver v h=>?_) (fun id ver cv i v s x h=>?_) (fun id ver i off v h=>?_) h
 ·simp only [leafC] at h ⊢
  refine ⟨h.1,?_⟩
  replace h:=h.2
  unfold zbs
  cases hid:hp id with
  | none=>rw [hid] at h;exact h
  | some b=>rw [hid] at h;cases b<;>exact h
 ·unfold zbs
  cases hid:hp id with
  | none=>rw [hid] at h;exact h
  | some b=>rw [hid] at h;cases b<;>exact h
 ·simp only [leafC] at h ⊢
  refine ⟨h.1,?_⟩
  replace h:=h.2
  unfold zbs
  cases hid:hp id with
  | none=>rw [hid] at h;exact h
  | some b=>rw [hid] at h;cases b<;>exact h
theorem Inv.hpS {base:Nat} {w0:World} {S0:Nat→Prop} (h:Inv base w0 w S0 S S hp m):Inv base w0 w S0 S S (zbs hp) m where
 below:=h.below
 bsz:=h.bsz
 tlt:=h.tlt
 s0:=h.s0
 s1:=h.s1
 s0lt:=h.s0lt
 slt:=h.slt
 rng:=fun id b hh=>h.rng id b (by rw [← hh,zeY])
 inj:=fun id id' b h1 h2=>h.inj id id' b (by rw [← h1,zeY]) (by rw [← h2,zeY])
 var:=fun id cs hid=>by
  obtain ⟨c0,h0,rfl⟩:=zlo hid
  obtain ⟨b,c,e,h1,h2,h3,h4⟩:=h.var id c0 h0
  refine ⟨b,c,e,h1,h2,by simp [h3],fun j a ha=>?_⟩
  rw [List.getElem?_map] at ha
  obtain ⟨x,hx,rfl⟩:=Option.map_eq_some_iff.1 ha
  obtain ⟨u,hu,hc⟩:=h4 j x hx
  exact ⟨u,hu,hc.hpS.seed⟩
 arr:=fun id e sz ver xs q hid=>h.arr id e sz ver xs q (zhV hid)
 cl:=by
  obtain ⟨G,hG⟩:=h.cl
  exact ⟨G,hG.mono (Stab.refl _ _) (fun _ h=>h) fun id e sz ver xs d lo cv b cur hid hd hm hb=>⟨ver,d,lo,cv,zhV hid,Nat.le_refl _,Nat.le_refl _,hm,hb⟩⟩
end
theorem ziv (f:AV→AV):∀ (l:List (Nat × AV)) (i:Nat),za5 (l.map fun p=>(p.1,f p.2)) i=(za5 l i).map f
 | [],i=>rfl
 | (t,v)::r,i=>by
  simp only [List.map_cons,za5]
  cases Nat.beq i t with
  | true=>rfl
  | false=>exact ziv f r i
section
variable {P:Program} {G:Gd} {ds:List Oper→Bool} {call:zi} {base N:Nat} {w0 w:World} {S0 T:Nat→Prop} {hs:Hints} {fid:FuncId} {k:Nat} {rs:Nat→Option zap} {σ σ':St} {a:Act}
theorem zl9 {h:zap} (hR:Rel base w0 S0 T N σ a w) (hT:∀ k,T k→k < base→S0 k) (hc:reseed call h σ=some σ'):∃ T',(∀ k,T k→T' k)∧(∀ k,T' k→k < base→S0 k)∧Rel base w0 S0 T' N σ' a w:=by
 unfold reseed at hc
 cases hrun:(zbq σ.tm h).run call σ.hp [] with
 | none=>rw [hrun] at hc;cases hc
 | some x =>
  obtain ⟨lst,hp1,l1⟩:=x
  rw [hrun] at hc
  simp only [] at hc
  cases hrest:zb1 hp1 lst with
  | none=>rw [hrest] at hc;cases hc
  | some y =>
   obtain ⟨vs,bs⟩:=y
   rw [hrest] at hc
   simp only [] at hc
   cases hm:zhU bs with
   | false=>rw [hm] at hc;cases hc
   | true =>
    rw [hm] at hc
    simp only [cond_true,Option.some.injEq] at hc
    subst hc
    simp only [zhU,Bool.and_eq_true] at hm
    obtain ⟨n1,n2,n3⟩:=hm
    have hR1:Rel base w0 S0 T N { tm:=za5 vs,hp:=hpOf (bs.map fun b=>(b.1,b.2.2)) } a w:=zeA (call:=call) hR (h:=h) (by
     unfold zb4
     rw [hrun]
     simp only [zei,hrest,n1,n2,Bool.and_self,cond_true])
    obtain ⟨r1,r2,S,m,hI,hTm⟩:=hR1
    have hTS:∀ k,T k→S k:=fun k hk=>by
     rcases hI.tlt k hk with h1 | h1
     ·exact hI.s0 k (hT k hk h1)
     ·exact h1
    refine ⟨S,hTS,fun k hk hl=>?_,r1,r2,S,m,(hI.reseed hTS fun id blk hid=>?_).hpS,fun t x hx=>?_⟩
    ·rcases hI.s1 k hk with h1 | h1
     ·exact h1
     ·omega
    ·simp only [zeb] at hid
     obtain ⟨nb,hnb,he⟩:=List.mem_map.1 (zci hid)
     cases he
     exact List.all_eq_true.1 n3 nb hnb
    ·simp only [zlp,ziv] at hx
     obtain ⟨y,hy,rfl⟩:=Option.map_eq_some_iff.1 hx
     obtain ⟨v,hv,hac⟩:=hTm t y hy
     exact ⟨v,hv,AC.mono (fun _ _ h=>h.hpS) (hac.reseed hTS)⟩
theorem zhs (hD:zcc P G ds) (hC:SoundAt P G call w0 S0):∀ (c:Code) {T:Nat→Prop} {σ σ':St} {a:Act} {w:World} {e:Ex} {Q:Exit→Act→World→Prop},(∀ k,T k→k < base→S0 k)→zar ds N c=true→Rel base w0 S0 T N σ a w→zaD P hs call fid rs k c σ=some (e,σ') →
  (∀ a' w' T',(∀ k,T' k→k < base→S0 k)→Rel base w0 S0 T' N σ' a' w'→Q (zev e) a' w')→c.wp P Q a w:=by
 intro c
 induction c with
 | region id ops draw =>
  intro T σ σ' a w e Q hT hc hR h hQ
  unfold zaD at h
  split at h
  ·split at h
   ·rename_i σ1 h1
    obtain ⟨T',_,t2,hR'⟩:=zl9 hR hT h1
    exact zcS hD hC _ hc hR' h fun a' w' hR2=>hQ a' w' T' t2 hR2
   ·cases h
  ·exact zcS hD hC _ hc hR h fun a' w' hR2=>hQ a' w' T hT hR2
 | seq x y ihx ihy =>
  intro T σ σ' a w e Q hT hc hR h hQ
  simp only [zar,Bool.and_eq_true] at hc
  unfold zaD at h
  split at h
  ·rename_i σ1 hx
   exact wp_seq (ihx hT hc.1 hR hx fun a' w' T' hT' hR'=>ihy hT' hc.2 hR' h hQ)
  ·rename_i hne
   refine wp_seq (ihx hT hc.1 hR h fun a' w' T' hT' hR'=>?_)
   cases e with
   | normal=>exact absurd h (hne σ')
   | ret=>exact hQ a' w' T' hT' hR'
   | exit i=>exact hQ a' w' T' hT' hR'
 | cond c x y ihx ihy =>
  intro T σ σ' a w e Q hT hc hR h hQ
  simp only [zar,Bool.and_eq_true] at hc
  unfold zaD at h
  split at h
  ·rename_i t ht
   have hb:a.eval c=.bool t:=by
    obtain ⟨_,_,S,m,_,hT⟩:=hR
    exact zca (zT hT ht)
   cases t with
   | true=>exact wp_cond_true hb (ihx hT hc.1 hR h hQ)
   | false=>exact wp_cond_false hb (ihy hT hc.2 hR h hQ)
  ·cases h
 | block id c ih =>
  intro T σ σ' a w e Q hT hc hR h hQ
  simp only [zar] at hc
  unfold zaD at h
  split at h
  ·rename_i i σ1 hx
   refine wp_block (ih hT hc hR hx fun a' w' T' hT' hR'=>?_)
   cases hb:Nat.beq i id with
   | true =>
    rw [hb] at h
    cases h
    simp only [zev,Exit.inBlock,zC hb,if_true]
    exact hQ a' w' T' hT' hR'
   | false =>
    rw [hb] at h
    cases h
    have hne:i≠id:=fun e=>by rw [e] at hb;simp at hb
    simp only [zev,Exit.inBlock,hne,if_false]
    exact hQ a' w' T' hT' hR'
  ·rename_i hne
   refine wp_block (ih hT hc hR h fun a' w' T' hT' hR'=>?_)
   cases e with
   | normal=>exact hQ a' w' T' hT' hR'
   | ret=>exact hQ a' w' T' hT' hR'
   | exit i=>exact absurd h (hne i σ')
 | _ =>
  intro T σ σ' a w e Q hT hc hR h hQ
  exact zcS hD hC _ hc hR h fun a' w' hR2=>hQ a' w' T hT hR2
theorem zhp (hD:zcc P G ds) (hP:OkProg P ds) (hC:Sound P G call) {f k:Nat} {fn:Func} {args:List AV} (hfn:P.funcs[f]? = some fn) (hb:fn.body.isSome=true)
  (h:za1 P hs call f rs k fn args=some yes) {vs:Array Value} (hl:Leaves (AC w (Here w) (Here w) (fun _=>none) (fun _=>none)) vs args) (hG:G.pr (Here w) w) :
  Calls P f vs w fun e w'=>e=.returned (.bool true)∧Below w.heap.size w w':=by
 rw [zlK] at h
 cases hbd:fn.body with
 | none=>rw [hbd] at hb;cases hb
 | some c =>
  rw [hbd] at h
  simp only [] at h
  unfold zk7 at h
  rw [hbd] at h
  simp only [] at h
  have hR:Rel w.heap.size w (Here w) (Here w) (vs++Array.replicate (fn.ntmps - vs.size) undef).size (enter args) { tmps:=vs++Array.replicate (fn.ntmps - vs.size) undef,defers:=[] } w:=by
   refine ⟨rfl,rfl,Here w,fun _=>none,{ below:=Below.refl _ _,bsz:=Nat.le_refl _,tlt:=fun k hk=>.inl hk,s0:=fun _ h=>h,s1:=fun _ h=>.inl h,s0lt:=fun _ h=>h,slt:=fun _ h=>h,rng:=fun i b h=>by simp [enter,hot] at h,inj:=fun i j b h=>by simp [enter,hot] at h,var:=fun i cs h=>by simp [enter] at h,arr:=fun i e sz ver xs q h=>by simp [enter] at h,cl:=⟨fun _ _ _ _=>False,fun _ _ _ _ h=>h.elim,fun _ _ _ _ _ _ _ h=>h.elim,fun i e sz ver xs d lo cv b cur h=>by simp [enter] at h⟩ },fun t a ha=>?_⟩
   simp only [enter,zgY,Nat.zero_le,if_true,Nat.sub_zero] at ha
   obtain ⟨u,hu,hc⟩:=hl.2 t a ha
   exact ⟨u,by rw [Array.getElem?_append_left (Array.getElem?_eq_some_iff.1 hu).1];exact hu,hc⟩
  have hsz:fn.ntmps≤(vs++Array.replicate (fn.ntmps - vs.size) undef).size:=by simp;omega
  have hco:=zgB (ds:=ds) hsz (hP.code f fn c hfn hbd)
  have fin:∀ (σ:St) (a':Act) (w':World) (T':Nat→Prop),zbh P hs call f fn σ=some yes→Rel w.heap.size w (Here w) T' (vs++Array.replicate (fn.ntmps - vs.size) undef).size σ a' w' →
    a'.defers=[]∧∃ v,(results fn a'.tmps).run P w'=.ok v w'∧Ending.returned v=.returned (.bool true)∧Below w.heap.size w w':=by
   intro σ a' w' T' hf ⟨h1,h2,S',m,hI,hTm⟩
   refine ⟨h1,?_⟩
   unfold zbh at hf
   split at hf
   ·rename_i r' hp' l' hrun
    cases hf
    obtain ⟨asv,h3,l3,hv,g⟩:=bind_some hrun
    obtain ⟨rfl,us,hus,n1,c1⟩:=zeT hI hTm hv
    obtain ⟨_,n2,ids,o1,o2,o3⟩:=zeG hI (us:=us) (SubH.refl _) n1 c1 g
    refine ⟨_,zgQ hus,?_,hI.below⟩
    simp only [yes,List.length_cons,List.length_nil] at n2
    obtain ⟨u,hu,hone⟩:=o1 0 _ rfl
    have hlen:us.length=1:=by omega
    obtain ⟨u',rfl⟩:=List.length_eq_one_iff.1 hlen
    simp only [List.getElem?_cons_zero,Option.some.injEq] at hu
    subst hu
    obtain ⟨l,hl,hrl⟩:=hone
    cases hl
    cases hrl
    rfl
   ·cases hf
  refine calls_of_wp hfn hbd ?_
  split at h
  ·rename_i σ he
   exact zhs hD ⟨hC,hG⟩ c (fun k hk _=>hk) hco hR he fun a' w' T' _ hR'=>fin σ a' w' T' h hR'
  ·rename_i σ he
   exact zhs hD ⟨hC,hG⟩ c (fun k hk _=>hk) hco hR he fun a' w' T' _ hR'=>fin σ a' w' T' h hR'
  ·cases h
end
end Ovi
namespace Ovi
open Go
structure MokP (fs xs:List Atom) (b:List Int):Prop where
 f30:fs.length≤30
 x3:xs.length≤3
 ne:xs≠[]
 ts:∀ x∈xs,(∀ t∈x.2, -10≤t∧t≤4)∧x.2.length≤1048576
 len:∀ x∈xs,∀ f∈fs,x.1=f.1→f.2.length=x.2.length
 b5:b.length=5
theorem znT {a b:List Int} (h:I1 a=I1 b):a=b:=by
 have:=congrArg (List.map fun r:List D=>match r with | [.int _ z]=>z | _=>0) h
 simpa [I1,Function.comp_def] using this
theorem zlt {a b:List Atom} (h:A1 a=A1 b):a=b:=by
 have:=congrArg (List.map fun r:List D=>match r with | [.int _ z,.list _ l]=>(z,l) | _=>(0,[])) h
 simp only [A1,List.map_map,Function.comp_def] at this
 have h2:=congrArg (List.map fun p:Int × Rows=>(p.1,p.2.map fun r:List D=>match r with | [.int _ z]=>z | _=>0)) this
 simpa [I1,Function.comp_def] using h2
def zch (fs xs:List Atom) (b:List Int):Args:=[.d (.list 2 (A1 fs)),.d (.list 2 (A1 xs)),.d (.list 1 (I1 b))]
theorem zkt {fs xs fs' xs':List Atom} {b b':List Int} (h:zch fs xs b=zch fs' xs' b'):fs=fs'∧xs=xs'∧b=b':=by
 unfold zch at h
 simp only [List.cons.injEq,AV.d.injEq,D.list.injEq,true_and,and_true] at h
 exact ⟨zlt h.1,zlt h.2.1,znT h.2.2⟩
open Classical in
noncomputable def matP (e:Nat) (args:Args):Option Res :=
 if h:∃ p:(List Atom × List Atom) × List Int,args=zch p.1.1 p.1.2 p.2∧MokP p.1.1 p.1.2 p.2 then some [(false,[.frow e 1 1 (LL (mats h.choose.1.1 h.choose.1.2 h.choose.2))])] else none
theorem zfD {e:Nat} {args:Args} {r:Res} (h:matP e args=some r):∃ fs xs b,args=zch fs xs b∧MokP fs xs b∧r=[(false,[.frow e 1 1 (LL (mats fs xs b))])]:=by
 unfold matP at h
 split at h
 ·rename_i hx
  cases h
  exact ⟨_,_,_,hx.choose_spec.1,hx.choose_spec.2,rfl⟩
 ·cases h
theorem znD {e:Nat} {fs xs:List Atom} {b:List Int} (h:MokP fs xs b):matP e [.d (.list 2 (A1 fs)),.d (.list 2 (A1 xs)),.d (.list 1 (I1 b))]=some [(false,[.frow e 1 1 (LL (mats fs xs b))])]:=by
 have hx:∃ p:(List Atom × List Atom) × List Int,[AV.d (.list 2 (A1 fs)),.d (.list 2 (A1 xs)),.d (.list 1 (I1 b))]=zch p.1.1 p.1.2 p.2∧MokP p.1.1 p.1.2 p.2:=⟨((fs,xs),b),rfl,h⟩
 unfold matP
 rw [dif_pos hx]
 obtain ⟨h1,h2,h3⟩:=zkt (show zch fs xs b=_ from hx.choose_spec.1)
 rw [← h1,← h2,← h3]
end Ovi
namespace Go.Proofs.YtiacahdabflcdaaGreat.Q
open Go Ovi
noncomputable abbrev P:=Tryz.prog
def sg:FuncId→Sig:=fun f=>match f with
 | 3=>[(false,[.bool])]
 | 4=>[(false,[.bool])]
 | 6=>[(false,[.int .i64])]
 | 7=>[(false,[.int .i64])]
 | 8=>[(true,[.ro 3,.ro 2,.int .i64,.ro 2]),(false,[.bool])]
 | 9=>[(true,[.own 112 3,.fown 114 2 1])]
 | 10=>[(false,[.fown 76 5 2])]
 | 11=>[(false,[.own 3 1])]
 | 12=>[(true,[.xown 112 3 0,.xown 114 2 1,.int .i64,.xown 83 2 1]),(false,[.bool])]
 | 13=>[(false,[.bool])]
 | 14=>[(false,[.bool])]
 | 15=>[(false,[.bool])]
 | 16=>[(false,[.bool])]
 | 17=>[(false,[.int .i64])]
 | 18=>[(false,[.int .i64])]
 | 19=>[(false,[.int .i64])]
 | 20=>[(false,[.int .i64])]
 | 21=>[(false,[.int .i64])]
 | 22=>[(true,[.ro 3,.ro 2,.int .i64,.ro 2]),(false,[.bool])]
 | 23=>[(true,[.xown 112 3 0,.xown 114 2 1,.int .i64,.xown 83 2 1]),(false,[.bool])]
 | 33=>[(false,[.int .i64])]
 | 34=>[(false,[.int .i64])]
 | 35=>[(false,[.int .i64])]
 | 36=>[(true,[.ro 3,.ro 2,.int .i64,.ro 2]),(false,[.bool])]
 | 37=>[(false,[.own 112 3])]
 | 38=>[(false,[.fown 114 2 1])]
 | 39=>[(true,[.fown 133 2 1,.fown 133 2 1,.bool,.int .i64,.int .i64])]
 | 40=>[(false,[.bool])]
 | 41=>[(false,[.bool])]
 | 42=>[(true,[.own 112 3,.fown 114 2 1])]
 | 43=>[(false,[.xown 83 2 1])]
 | 44=>[(true,[.own 112 3,.fown 114 2 1]),(false,[.int .i64])]
 | 45=>[(false,[.bool])]
 | 46=>[(false,[.bool])]
 | 47=>[(false,[.bool])]
 | 48=>[(false,[.bool])]
 | 53=>[(false,[.int .i64])]
 | 54=>[(false,[.int .i64])]
 | 58=>[(false,[.bool])]
 | 59=>[(false,[.bool])]
 | 64=>[(false,[.int .i64])]
 | 65=>[(false,[.int .i64])]
 | 66=>[(false,[.int .i64])]
 | 67=>[(false,[.int .i64])]
 | 68=>[(true,[.own 112 3,.fown 114 2 1])]
 | 69=>[(false,[.own 83 2])]
 | 70=>[(false,[.int .i64])]
 | 71=>[(true,[.ro 3,.ro 2]),(false,[.int .i64])]
 | 72=>[(true,[.str,.int .i64,.bool])]
 | 73=>[(true,[.int .i64,.own 3 1])]
 | 74=>[(false,[.fown 133 2 1])]
 | 75=>[(false,[.bool])]
 | 76=>[(false,[.bool])]
 | 77=>[(false,[.int .i64])]
 | 78=>[(false,[.own 3 1])]
 | 79=>[(false,[.bool])]
 | 80=>[(false,[.bool])]
 | 81=>[(false,[.bool])]
 | 82=>[(false,[.own 112 3])]
 | 83=>[(false,[.fown 114 2 1])]
 | 84=>[(false,[.fown 27 1 1])]
 | 85=>[(false,[.bool])]
 | 86=>[(true,[.own 112 3,.fown 114 2 1]),(false,[.int .i64])]
 | 87=>[(false,[.own 3 1])]
 | 88=>[(false,[.int .i64])]
 | 89=>[(false,[.own 3 1])]
 | 90=>[(false,[.int .i64])]
 | 91=>[(true,[.int .i64,.own 3 1]),(false,[.bool])]
 | 92=>[(false,[.fown 114 2 1])]
 | 93=>[(false,[.bool])]
 | 94=>[(false,[.bool])]
 | 95=>[(false,[.bool])]
 | 96=>[(false,[.bool])]
 | 97=>[(false,[.str])]
 | 98=>[(false,[.int .i64])]
 | 99=>[(false,[.int .i64])]
 | 100=>[(false,[.int .i64])]
 | 103=>[(false,[.int .i64])]
 | 104=>[(false,[.bool])]
 | 105=>[(false,[.int .i64])]
 | 106=>[(false,[.ro 1])]
 | 107=>[(false,[.bool])]
 | 108=>[(false,[.bool])]
 | 112=>[(false,[.int .i64])]
 | 114=>[(false,[.bool])]
 | 115=>[(false,[.int .i64])]
 | 116=>[(true,[.int .i64,.own 3 1])]
 | 117=>[(false,[.own 27 1])]
 | 118=>[(false,[.bool])]
 | 119=>[(false,[.int .i64]),(false,[.bool])]
 | 120=>[(true,[.own 112 3,.fown 114 2 1]),(false,[.bool])]
 | 121=>[(false,[.own 3 1])]
 | 122=>[(false,[.int .i64])]
 | 123=>[(false,[.int .i64])]
 | 124=>[(true,[.int .i64,.own 3 1]),(false,[.bool])]
 | 125=>[(true,[.ro 3,.ro 2])]
 | 126=>[(true,[.int .i64,.own 3 1])]
 | 127=>[(false,[.bool])]
 | 128=>[(false,[.bool])]
 | 129=>[(false,[.bool])]
 | 130=>[(false,[.bool])]
 | 131=>[(false,[.bool])]
 | 132=>[(false,[.int .i64])]
 | 133=>[(false,[.int .i64])]
 | 134=>[(false,[.own 3 1])]
 | 135=>[(false,[.int .i64])]
 | 136=>[(false,[.bool])]
 | 137=>[(false,[.own 3 1])]
 | 138=>[(false,[.bool])]
 | 139=>[(false,[.bool])]
 | 140=>[(false,[.bool])]
 | 141=>[(true,[.int .i64,.own 3 1])]
 | 142=>[(false,[.fown 27 1 1])]
 | 143=>[(false,[.bool])]
 | 144=>[(false,[.bool])]
 | 145=>[(false,[.bool])]
 | 146=>[(false,[.int .i64]),(false,[.bool])]
 | 147=>[(true,[.own 112 3,.fown 114 2 1]),(false,[.bool])]
 | 148=>[(false,[.own 3 1])]
 | 149=>[(false,[.own 3 1])]
 | 150=>[(true,[]),(false,[])]
 | 151=>[(true,[]),(false,[]),(false,[])]
 | 152=>[(false,[.bool])]
 | 153=>[(false,[.bool])]
 | 154=>[(false,[.ro 1])]
 | 155=>[(false,[.bool])]
 | 156=>[(false,[.bool])]
 | 157=>[(false,[.bool])]
 | 159=>[(false,[.bool])]
 | 160=>[(false,[.ro 1])]
 | 161=>[(false,[.bool])]
 | 166=>[(false,[.int .i64])]
 | 167=>[(false,[.own 27 1])]
 | 168=>[(false,[.bool])]
 | 169=>[(false,[.bool])]
 | 170=>[(false,[.bool])]
 | 171=>[(true,[.int .i64,.own 3 1])]
 | 172=>[(false,[.ro 1])]
 | 173=>[(false,[.int .i64])]
 | 174=>[(false,[.int .i64])]
 | 175=>[(false,[.bool])]
 | 176=>[(true,[])]
 | 177=>[(true,[]),(true,[])]
 | 178=>[(false,[.bool])]
 | 179=>[(false,[.bool])]
 | 180=>[(false,[.int .i64])]
 | 181=>[(false,[.int .i64])]
 | 182=>[(false,[.bool])]
 | 183=>[(false,[.fown 27 1 1])]
 | 184=>[(false,[.own 3 1])]
 | 185=>[(false,[.bool])]
 | 186=>[(false,[.bool])]
 | 187=>[(false,[.bool])]
 | 188=>[(true,[.int .i64,.own 3 1])]
 | 189=>[]
 | 200=>[(false,[.int .i64])]
 | 201=>[(false,[.int .i64])]
 | 202=>[(false,[.bool])]
 | 203=>[(false,[.own 27 1])]
 | 204=>[(false,[.own 3 1])]
 | 205=>[(false,[.int .i64])]
 | 206=>[(false,[.int .i64])]
 | 207=>[]
 | 208=>[(false,[.bool])]
 | 209=>[(false,[.own 3 1]),(false,[.bool])]
 | 210=>[(false,[.own 3 1])]
 | 211=>[(false,[.bool])]
 | 212=>[(false,[.bool])]
 | 213=>[(false,[.bool])]
 | 214=>[(false,[.bool])]
 | 215=>[(false,[.int .i64])]
 | 216=>[]
 | 229=>[(false,[.own 3 1]),(false,[.bool])]
 | 230=>[]
 | 240=>[(false,[.int .i64])]
 | 241=>[(false,[.int .i64])]
 | _=>[]
def lp:FuncId→Nat→zap:=fun f l=>match f,l with
 | 7,5=>[(0,.same),(1,.same),(5,.same)]
 | 10,3=>[(0,.same),(3,.fow 76 5 2),(4,.same)]
 | 11,3=>[(0,.same),(3,.own 3 1),(4,.same)]
 | 12,5=>[(1,.same),(2,.same),(6,.box [.own 112 3,.fow 114 2 1,.same,.fow 83 2 1]),(8,.box [.own 112 3,.fow 114 2 1,.same,.fow 83 2 1]),(9,.same)]
 | 15,4=>[(0,.same),(1,.same),(5,.same)]
 | 16,4=>[(0,.same),(1,.same),(5,.same)]
 | 18,2=>[(0,.same),(1,.same),(5,.same)]
 | 19,2=>[(0,.same),(1,.same),(5,.same)]
 | 33,5=>[(0,.same),(1,.same),(5,.same)]
 | 34,5=>[(0,.same),(1,.same),(5,.same)]
 | 36,5=>[(1,.same),(2,.same),(6,.box [.own 112 3,.fow 114 2 1,.same,.own 83 2]),(8,.box [.data 3,.data 2,.same,.own 83 2]),(9,.same)]
 | 37,3=>[(0,.same),(3,.own 112 3),(4,.same)]
 | 38,3=>[(0,.same),(3,.fow 114 2 1),(4,.same)]
 | 40,4=>[(1,.box [.same,.same]),(16,.same),(17,.same),(18,.same)]
 | 43,3=>[(2,.box [.same,.same]),(5,.fow 83 2 1),(11,.same),(12,.same),(13,.same)]
 | 43,6=>[(2,.box [.same,.same]),(5,.fow 83 2 1),(6,.same),(11,.same),(12,.same),(13,.same),(20,.fowl 27 1 1),(21,.same),(22,.same)]
 | 44,8=>[(3,.box [.same,.same]),(6,.box [.own 112 3,.fow 114 2 1]),(8,.box [.data 2,.data 2,.same,.same,.same]),(9,.own 3 1),(10,.same),(47,.own 3 1),(48,.same),(49,.same)]
 | 44,15=>[(3,.box [.same,.same]),(6,.box [.own 112 3,.fow 114 2 1]),(9,.data 1),(10,.same),(13,.box [.own 112 3,.fow 114 2 1]),(64,.data 2),(65,.same),(66,.same)]
 | 45,4=>[(0,.same),(1,.same),(5,.same)]
 | 46,4=>[(0,.same),(1,.same),(5,.same)]
 | 47,4=>[(0,.same),(1,.same),(5,.same)]
 | 54,2=>[(0,.same),(1,.same),(5,.same)]
 | 58,2=>[(1,.box [.same,.same]),(3,.same)]
 | 59,2=>[(0,.same),(1,.same),(5,.same)]
 | 64,2=>[(0,.same),(1,.same),(5,.same)]
 | 67,5=>[(0,.same),(1,.same),(5,.same)]
 | 68,3=>[(1,.box [.same,.same]),(2,.box [.own 112 3,.fow 114 2 1]),(3,.box [.own 112 3,.fow 114 2 1]),(4,.same)]
 | 69,3=>[(1,.same),(2,.box [.same,.same]),(5,.own 83 2),(6,.same)]
 | 69,7=>[(1,.same),(2,.box [.same,.same]),(5,.own 83 2),(6,.same),(7,.own 27 1),(8,.same)]
 | 71,15=>[(3,.box [.same,.same]),(4,.box [.same,.same,.same,.same,.same]),(6,.box [.own 112 3,.fow 114 2 1]),(8,.box [.own 112 3,.fow 114 2 1]),(15,.own 3 1),(16,.own 3 1),(17,.same)]
 | 71,23=>[(4,.box [.same,.same,.same,.same,.same]),(6,.box [.own 112 3,.fow 114 2 1]),(8,.box [.data 3,.data 2]),(15,.data 1),(19,.box [.data 3,.data 2]),(20,.same)]
 | 74,3=>[(0,.same),(3,.fow 133 2 1),(4,.same)]
 | 75,2=>[(0,.same),(5,.same),(6,.same),(7,.same)]
 | 83,3=>[(3,.fow 114 2 1),(7,.same),(8,.same),(9,.same)]
 | 84,5=>[(2,.box [.same,.same]),(3,.box [.same,.same,.same,.same,.same]),(5,.fow 27 1 1),(18,.fowl 27 1 1),(19,.same),(20,.same)]
 | 91,3=>[(1,.same),(4,.box [.same,.own 3 1]),(6,.box [.same,.own 3 1]),(14,.same),(15,.same),(16,.same)]
 | 96,4=>[(0,.same),(1,.same),(5,.same)]
 | 97,4=>[(0,.same),(3,.same)]
 | 98,2=>[(0,.same),(1,.same),(5,.same)]
 | 99,2=>[(0,.same),(1,.same),(5,.same)]
 | 103,2=>[(0,.same),(1,.same),(5,.same)]
 | 104,4=>[(3,.box [.same,.same]),(5,.same)]
 | 106,3=>[(1,.box [.same,.same]),(3,.data 1),(4,.same)]
 | 107,2=>[(0,.same),(3,.same)]
 | 108,4=>[(0,.same),(3,.box [.same,.same,.same,.same,.same]),(5,.same)]
 | 108,12=>[(0,.same),(3,.box [.same,.same,.same,.same,.same]),(7,.same)]
 | 112,2=>[(0,.same),(1,.same),(9,.same),(10,.same),(11,.same)]
 | 114,4=>[(0,.same),(1,.same),(12,.same),(13,.same)]
 | 117,6=>[(2,.box [.same,.same]),(3,.box [.same,.same,.same,.same,.same]),(5,.own 27 1),(6,.own 27 1),(7,.same)]
 | 120,5=>[(2,.box [.same,.same]),(3,.box [.same,.same]),(4,.box [.own 112 3,.fow 114 2 1]),(6,.box [.data 3,.data 2]),(7,.same)]
 | 121,5=>[(3,.own 3 1),(4,.same),(5,.same),(6,.same)]
 | 124,3=>[(1,.same),(2,.box [.same,.same]),(4,.box [.same,.own 3 1]),(6,.box [.same,.own 3 1]),(7,.same)]
 | 125,4=>[(2,.box [.same,.same]),(3,.box [.same,.same]),(4,.box [.data 3,.data 2]),(5,.same)]
 | 132,3=>[(3,.same),(6,.same),(7,.same),(8,.same)]
 | 134,3=>[(3,.own 3 1),(9,.same),(10,.same),(11,.same)]
 | 135,2=>[(0,.same),(1,.same),(7,.same),(8,.same)]
 | 137,3=>[(3,.own 3 1),(9,.same),(10,.same),(11,.same)]
 | 137,6=>[(3,.own 3 1),(9,.same),(10,.same),(11,.same),(16,.data 1),(17,.same),(18,.same)]
 | 142,5=>[(5,.fow 27 1 1),(18,.fowl 27 1 1),(19,.same),(20,.same)]
 | 143,5=>[(2,.same),(3,.box [.same,.same]),(4,.box [.same,.same,.same,.same,.same]),(7,.own 3 1),(32,.same),(33,.same),(34,.same)]
 | 143,11=>[(2,.same),(3,.box [.same,.same]),(47,.same),(48,.same),(49,.same)]
 | 147,5=>[(2,.box [.same,.same]),(4,.box [.own 112 3,.fow 114 2 1]),(6,.box [.own 112 3,.fow 114 2 1]),(21,.same),(22,.same),(23,.same)]
 | 148,3=>[(3,.own 3 1),(8,.same),(9,.same),(10,.same)]
 | 149,3=>[(1,.same),(5,.own 3 1),(6,.own 3 1),(15,.own 3 1),(16,.same),(17,.same)]
 | 151,4=>[(0,.same),(1,.same),(5,.same)]
 | 151,9=>[(0,.same),(1,.same),(5,.same),(6,.same),(7,.same)]
 | 154,3=>[(0,.same),(3,.data 1),(4,.same)]
 | 154,6=>[(0,.same),(3,.data 1),(4,.same),(5,.same)]
 | 155,4=>[(3,.box [.same,.same]),(5,.same)]
 | 156,2=>[(0,.same),(1,.same),(5,.same)]
 | 160,2=>[(0,.same),(1,.same),(5,.same)]
 | 167,6=>[(5,.own 27 1),(6,.own 27 1),(7,.same)]
 | 167,10=>[(5,.own 27 1),(6,.own 27 1),(7,.same),(8,.same),(9,.same)]
 | 168,5=>[(2,.same),(3,.box [.same,.same]),(4,.box [.same,.same,.same,.same,.same]),(7,.same),(8,.same)]
 | 168,10=>[(2,.same),(3,.box [.same,.same]),(4,.box [.same,.same,.same,.same,.same]),(9,.same)]
 | 170,4=>[(1,.box [.same,.same]),(3,.same)]
 | 171,3=>[(2,.box [.same,.same]),(3,.box [.same,.same]),(4,.box [.same,.own 3 1]),(5,.box [.same,.own 3 1]),(6,.same)]
 | 172,3=>[(1,.box [.same,.same]),(3,.data 1),(4,.same)]
 | 172,7=>[(1,.box [.same,.same]),(3,.data 1),(4,.same),(5,.same),(6,.same)]
 | 173,2=>[(2,.box [.same,.same]),(3,.box [.same,.same]),(5,.same)]
 | 174,2=>[(0,.same),(1,.same),(7,.same),(8,.same)]
 | 177,4=>[(0,.same),(3,.same)]
 | 177,9=>[(0,.same),(3,.same),(4,.same),(5,.same)]
 | 180,2=>[(0,.same),(1,.same),(7,.same),(8,.same)]
 | 181,2=>[(0,.same),(1,.same),(7,.same),(8,.same)]
 | 183,5=>[(0,.same),(1,.same),(2,.same),(7,.fow 27 1 1),(18,.same),(19,.same),(20,.same)]
 | 187,4=>[(1,.box [.same,.same]),(13,.same),(14,.same),(15,.same)]
 | 188,3=>[(2,.box [.same,.same]),(4,.box [.same,.own 3 1]),(5,.box [.same,.own 3 1]),(11,.same),(12,.same),(13,.same)]
 | 189,2=>[(0,.same),(1,.same),(2,.same),(3,.same),(4,.same),(10,.same),(11,.same)]
 | 202,2=>[(1,.same),(2,.box [.same,.same]),(5,.same)]
 | 203,5=>[(1,.same),(2,.same),(3,.same),(4,.box [.same,.same]),(9,.own 27 1),(10,.same)]
 | 204,2=>[(1,.own 3 1)]
 | 206,2=>[(1,.same),(2,.box [.same,.same]),(5,.same)]
 | 207,2=>[(0,.same),(1,.same),(2,.same),(3,.same),(8,.same),(9,.same)]
 | 209,5=>[(5,.box [.same,.same]),(8,.own 3 1),(20,.same),(21,.same),(22,.same)]
 | 210,8=>[(7,.own 3 1),(8,.same)]
 | 216,1=>[(0,.same),(1,.same),(2,.same),(3,.same),(8,.same)]
 | 216,4=>[(0,.same),(1,.same),(2,.same),(3,.same),(8,.same),(9,.same)]
 | 229,5=>[(3,.box [.same,.same]),(4,.box [.same,.same]),(8,.own 3 1),(9,.same)]
 | 230,1=>[(0,.same),(1,.same),(2,.same),(6,.same)]
 | 230,4=>[(0,.same),(1,.same),(2,.same),(6,.same),(7,.same)]
 | 240,2=>[(0,.same),(1,.same),(7,.same),(8,.same)]
 | 241,2=>[(0,.same),(1,.same),(7,.same),(8,.same)]
 | 3,24=>[(1,.same),(2,.same),(3,.box [.same,.same]),(6,.same),(8,.box [.same,.same,.same,.same]),(9,.same),(10,.box [.own 112 3,.fow 114 2 1]),(11,.fow 76 5 2),(12,.own 3 1),(13,.box [.own 112 3,.fow 114 2 1,.same,.fow 83 2 1]),(14,.same),(15,.same)]
 | 3,25=>[(1,.same),(2,.same),(3,.box [.same,.same]),(6,.same),(8,.box [.same,.same,.same,.same]),(9,.same),(11,.fow 76 5 2),(12,.own 3 1),(13,.box [.own 112 3,.fow 114 2 1,.same,.fow 83 2 1]),(14,.same),(15,.same)]
 | 3,26=>[(1,.same),(2,.same),(3,.box [.same,.same]),(6,.same),(8,.box [.same,.same,.same,.same]),(9,.same),(12,.own 3 1),(13,.box [.own 112 3,.fow 114 2 1,.same,.fow 83 2 1]),(14,.same),(15,.same)]
 | 3,30=>[(1,.same),(2,.same),(3,.box [.same,.same]),(6,.same),(8,.box [.same,.same,.same,.same]),(9,.same),(13,.box [.own 112 3,.fow 114 2 1,.same,.fow 83 2 1]),(16,.same)]
 | 4,19=>[(1,.same),(2,.box [.same,.same]),(4,.same),(6,.box [.same,.same,.same,.same]),(7,.same),(8,.box [.own 112 3,.fow 114 2 1]),(9,.fow 76 5 2),(10,.box [.own 112 3,.fow 114 2 1,.same,.fow 83 2 1]),(11,.same),(12,.same)]
 | 4,20=>[(1,.same),(2,.box [.same,.same]),(4,.same),(6,.box [.same,.same,.same,.same]),(7,.same),(9,.fow 76 5 2),(10,.box [.own 112 3,.fow 114 2 1,.same,.fow 83 2 1]),(11,.same),(12,.same)]
 | 4,24=>[(1,.same),(2,.box [.same,.same]),(4,.same),(6,.box [.same,.same,.same,.same]),(7,.same),(10,.box [.own 112 3,.fow 114 2 1,.same,.fow 83 2 1]),(13,.same)]
 | _,_=>[]
def jn:FuncId→Nat→Option Nat:=fun f l=>match f,l with
 | 3,24=>some 0
 | 3,25=>some 0
 | 3,26=>some 0
 | 3,30=>some 0
 | 4,19=>some 0
 | 4,20=>some 0
 | 4,24=>some 0
 | _,_=>none
def hs:Hints:={ sig:=sg,loops:=lp,joins:=jn }
def rs44:Nat→Option zap:=fun i=>match i with
 | 9=>some [(1,.same),(2,.box [.same,.same]),(4,.same),(6,.box [.same,.same,.same,.same]),(7,.same)]
 | _=>none
def rs43:Nat→Option zap:=fun i=>match i with
 | 11=>some [(1,.same),(2,.same),(3,.box [.same,.same]),(6,.same),(8,.box [.same,.same,.same,.same]),(9,.same)]
 | _=>none
def digs:Nat→Nat→List UInt8→List UInt8
 | 0,_,acc=>acc
 | f+1,n,acc=>if n=0 then acc else digs f (n / 10) (UInt8.ofNat (48+n % 10)::acc)
def mt (k:Int):List UInt8:=if k≤0 then [109,48] else 109::digs 64 k.toNat []
noncomputable def prim:FuncId→Option (Args→Option Res):=zgg [(176,zcx),(177,zbf),(87,zbn 3),(82,zcB 112 3),(150,zdm 77),(151,zdh 152),(210,zgi 3),(17,za9 true (mkAg (zaO mt))),(18,za9 false (mkLs 5 (zO zbd))),(20,za9 true (mkAg (zbO mt))),(19,za9 false (mkLs 1 (zO zaT))),(183,matP 27)]
noncomputable def C (k:Nat):zi:=zbo P hs prim k
noncomputable def C0 (k:Nat):zi:=zbo P hs (fun _=>none) k
end Go.Proofs.YtiacahdabflcdaaGreat.Q

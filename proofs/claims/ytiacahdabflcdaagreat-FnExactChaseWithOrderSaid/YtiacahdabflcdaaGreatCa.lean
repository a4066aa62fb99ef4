/-
Towards the law: a machine that runs the program's own code on plain data, its soundness, the library by its contracts, and what the functions compute: part 1. No condition.
-/
import GoSem.Machine.Exec
import Derived.Below
import Derived.Maps.AppendAt
import Derived.Calls
import Derived.Orders
import Derived.Laws.CopyRow
import Derived.Tactics
import Derived.Lib.BufferRead
import Derived.Laws.Strings
import Derived.Laws.Entries
import Derived.Laws.StructEq
import Derived.Laws.Slices
import Derived.Laws.Tables
import Derived.Great.BuildSlice
import Derived.Laws.MakeOwn
set_option linter.unusedVariables false
set_option linter.unusedSimpArgs false
namespace Ovi
open Go
inductive D where
 | int (k:IntKind) (n:Int)
 | bool (b:Bool)
 | str (s:List UInt8)
 | list (sz:Nat) (xs:List (List D))
 | fn (f:FuncId) (caps:List (List D))
abbrev Rows:=List (List D)
inductive AV where
 | d (x:D)
 | pv (sz:Nat) (l:Rows) (id ver cv i:Nat)
 | s (sz:Nat) (l:Rows)
 | nil (sz:Nat)
 | own (id ver:Nat)
 | var (id off:Nat)
 | el (id ver i off:Nat)
 | imm (l:Rows) (i:Nat) (off:Nat)
 | cap (xs:List D) (off:Nat)
 | fn (f:FuncId) (caps:List AV)
 | agg (cs:List AV)
 | tup (vs:List AV)
abbrev Cm:=Nat × Nat × Nat
inductive Blk where
 | var (cs:List AV)
 | arr (e sz ver:Nat) (xs:Rows) (q:Cm)
 | frz (sz ver:Nat) (xs:Rows)
inductive RL where
 | d (x:D)
 | row (e sz:Nat) (xs:Rows)
 | frow (e sz d:Nat) (xs:Rows)
 | nil
abbrev Res:=List (Bool × List RL)
def D.asI (k:IntKind):D→Option Int
 | .int k' n=>if k'=k then some n else none
 | _=>none
def D.asB:D→Option Bool
 | .bool b=>some b
 | _=>none
def D.asS:D→Option (List UInt8)
 | .str s=>some s
 | _=>none
def D.asL (sz:Nat):D→Option Rows
 | .list sz' xs=>if sz'=sz∨xs.isEmpty then some xs else none
 | _=>none
def zk (l:Rows) (i off:Nat):Option D:=(l[i]?).bind fun x=>x[off]?
def zm (k:IntKind) (l:Rows) (i off:Nat):Option Int:=(zk l i off).bind (D.asI k)
def zan (l:Rows) (i off:Nat):Option Bool:=(zk l i off).bind D.asB
def zbm (l:Rows) (i off:Nat):Option (List UInt8):=(zk l i off).bind D.asS
def zw (sz:Nat) (l:Rows) (i off:Nat):Option Rows:=(zk l i off).bind (D.asL sz)
def zaf (N:Nat) (b:Bool) (n:Nat) (r:Res) (i j:Nat):Option RL :=
 if r.length=N then (r[i]?).bind fun x=>if x.1=b∧x.2.length=n then x.2[j]? else none else none
def resI (k:IntKind) (N:Nat) (b:Bool) (n:Nat) (r:Res) (i j:Nat):Option Int:=(zaf N b n r i j).bind fun | .d x=>x.asI k | _=>none
def resB (N:Nat) (b:Bool) (n:Nat) (r:Res) (i j:Nat):Option Bool:=(zaf N b n r i j).bind fun | .d x=>x.asB | _=>none
def resS (N:Nat) (b:Bool) (n:Nat) (r:Res) (i j:Nat):Option (List UInt8):=(zaf N b n r i j).bind fun | .d x=>x.asS | _=>none
def resL (sz:Nat) (N:Nat) (b:Bool) (n:Nat) (r:Res) (i j:Nat):Option Rows:=(zaf N b n r i j).bind fun | .d x=>x.asL sz | .row _ sz' xs=>if sz'=sz then some xs else none | .frow _ sz' _ xs=>if sz'=sz then some xs else none | .nil=>some []
def resO (e sz:Nat) (N:Nat) (b:Bool) (n:Nat) (r:Res) (i j:Nat):Option Rows:=(zaf N b n r i j).bind fun | .row e' sz' xs=>if e'=e∧sz'=sz then some xs else none | .frow e' sz' _ xs=>if e'=e∧sz'=sz then some xs else none | .nil=>some [] | _=>none
def resF (e sz d:Nat) (N:Nat) (b:Bool) (n:Nat) (r:Res) (i j:Nat):Option Rows:=(zaf N b n r i j).bind fun | .frow e' sz' d' xs=>if e'=e∧sz'=sz∧d≤d' then some xs else none | .nil=>some [] | _=>none
def inR (i:Int) (n:Nat):Bool:=decide (0≤i∧i < (n:Int))
def inS (l h:Int) (n:Nat):Bool:=decide (0≤l∧l≤h∧h≤(n:Int))
def fits (n:Nat):Bool:=decide (n≤1099511627776)
def zbe (s:List UInt8) (i:Int):Int:=((s.getD i.toNat 0).toNat:Int)
def cutL {α:Type} (l h:Int) (xs:List α):List α:=(xs.drop l.toNat).take (h.toNat - l.toNat)
def zaX:List UInt8→List UInt8→Bool:=Op.bytesLess
def zai (xs:Rows) (i off:Nat) (vs:List D):Rows:=xs.set i (((xs.getD i []).take off)++vs++((xs.getD i []).drop (off+vs.length)))
abbrev Args:=List AV
abbrev zi:=FuncId→Args→Option Res
abbrev Log:=List (Bool × Nat)
abbrev Hp:=Nat→Option Blk
inductive HA (α:Type) where
 | ret (a:α)
 | fail
 | get (id:Nat) (k:Option Blk→HA α)
 | put (id:Nat) (b:Option Blk) (k:HA α)
 | cnd (b:Bool) (x y:HA α)
 | oI (o:Option Int) (k:Int→HA α)
 | oB (o:Option Bool) (k:Bool→HA α)
 | oS (o:Option (List UInt8)) (k:List UInt8→HA α)
 | oL (o:Option Rows) (k:Rows→HA α)
 | call (f:FuncId) (args:Args) (k:Res→HA α)
def HA.bind {α β:Type}:HA α→(α→HA β)→HA β
 | .ret a,f=>f a
 | .fail,_=>.fail
 | .get id k,f=>.get id fun b=>(k b).bind f
 | .put id b k,f=>.put id b (k.bind f)
 | .cnd b x y,f=>.cnd b (x.bind f) (y.bind f)
 | .oI o k,f=>.oI o fun a=>(k a).bind f
 | .oB o k,f=>.oB o fun a=>(k a).bind f
 | .oS o k,f=>.oS o fun a=>(k a).bind f
 | .oL o k,f=>.oL o fun a=>(k a).bind f
 | .call g asv k,f=>.call g asv fun a=>(k a).bind f
instance:Monad HA where
 pure:=.ret
 bind:=.bind
def HA.of {α:Type}:Option α→HA α
 | some a=>.ret a
 | none=>.fail
def getB (id:Nat):HA Blk:=.get id fun | some b=>.ret b | none=>.fail
def putB (id:Nat) (b:Blk):HA Unit:=.put id (some b) (.ret ())
def newB (id:Nat) (b:Blk):HA Unit:=.get id fun | none=>.put id (some b) (.ret ()) | some _=>.fail
def must (b:Bool):HA Unit:=.cnd b (.ret ()) .fail
def updH (h:Hp) (id:Nat) (b:Option Blk):Hp:=fun i=>cond (Nat.beq i id) b (h i)
def HA.run {α:Type} (call:zi):HA α→Hp→Log→Option (α × Hp × Log)
 | .ret a,h,l=>some (a,h,l)
 | .fail,_,_=>none
 | .get id k,h,l=>(k (h id)).run call h ((false,id)::l)
 | .put id b k,h,l=>k.run call (updH h id b) ((true,id)::l)
 | .cnd b x y,h,l=>cond b (x.run call h l) (y.run call h l)
 | .oI o k,h,l=>match o with | some a=>(k a).run call h l | none=>none
 | .oB o k,h,l=>match o with | some a=>(k a).run call h l | none=>none
 | .oS o k,h,l=>match o with | some a=>(k a).run call h l | none=>none
 | .oL o k,h,l=>match o with | some a=>(k a).run call h l | none=>none
 | .call f args k,h,l=>match call f args with | some r=>(k r).run call h l | none=>none
def ite' {R:Type} (b:Bool) (x y:Option R):Option R:=cond b x y
def zg {R:Type} (o:Option Int) (k:Int→Option R):Option R:=match o with | some a=>k a | none=>none
def zj {R:Type} (o:Option Bool) (k:Bool→Option R):Option R:=match o with | some a=>k a | none=>none
def zbl {R:Type} (o:Option (List UInt8)) (k:List UInt8→Option R):Option R:=match o with | some a=>k a | none=>none
def zc {R:Type} (o:Option Rows) (k:Rows→Option R):Option R:=match o with | some a=>k a | none=>none
def zb {R:Type} (o:Option Res) (k:Res→Option R):Option R:=match o with | some a=>k a | none=>none
def HA.runK {α R:Type} (call:zi):HA α→Hp→Log→(α→Hp→Log→Option R)→Option R
 | .ret a,h,l,K=>K a h l
 | .fail,_,_,_=>none
 | .get id k,h,l,K=>(k (h id)).runK call h ((false,id)::l) K
 | .put id b k,h,l,K=>k.runK call (updH h id b) ((true,id)::l) K
 | .cnd b x y,h,l,K=>ite' b (x.runK call h l K) (y.runK call h l K)
 | .oI o k,h,l,K=>zg o fun a=>(k a).runK call h l K
 | .oB o k,h,l,K=>zj o fun a=>(k a).runK call h l K
 | .oS o k,h,l,K=>zbl o fun a=>(k a).runK call h l K
 | .oL o k,h,l,K=>zc o fun a=>(k a).runK call h l K
 | .call f args k,h,l,K=>zb (call f args) fun r=>(k r).runK call h l K
theorem HA.runK_eq {α R:Type} (call:zi):∀ (m:HA α) (h:Hp) (l:Log) (K:α→Hp→Log→Option R),m.runK call h l K=(m.run call h l).bind fun r=>K r.1 r.2.1 r.2.2
 | .ret a,h,l,K=>rfl
 | .fail,_,_,_=>rfl
 | .get id k,h,l,K=>(k (h id)).runK_eq call h _ K
 | .put id b k,h,l,K=>k.runK_eq call _ _ K
 | .cnd b x y,h,l,K=>by cases b;exact y.runK_eq call h l K;exact x.runK_eq call h l K
 | .oI o k,h,l,K=>by cases o;rfl;exact (k _).runK_eq call h l K
 | .oB o k,h,l,K=>by cases o;rfl;exact (k _).runK_eq call h l K
 | .oS o k,h,l,K=>by cases o;rfl;exact (k _).runK_eq call h l K
 | .oL o k,h,l,K=>by cases o;rfl;exact (k _).runK_eq call h l K
 | .call f args k,h,l,K=>by
  unfold HA.runK HA.run zb
  cases call f args with
  | none=>rfl
  | some r=>exact (k r).runK_eq call h l K
abbrev Tm:=Nat→Option AV
structure St where
 tm:Tm
 hp:Hp
def AV.strip:AV→AV
 | .pv sz l _ _ _ _=>.d (.list sz l)
 | .s sz l=>.d (.list sz l)
 | a=>a
def AV.cells:AV→List AV
 | .agg cs=>cs
 | v=>[v]
inductive Leaf where
 | int (k:IntKind) | bool | str | list (sz:Nat) | other
def szOf (P:Program) (t:TypeId):Nat:=match P.info? t with | some i=>i.size | none=>0
def zbC (P:Program) (t:TypeId):Bool:=match P.underlying t with | some (.struct _)=>true | some (.array _ _)=>true | _=>false
def zbI (P:Program) (t:TypeId):Option TypeId:=match P.underlying t with | some (.slice e)=>some e | _=>none
def zdi (P:Program) (t:TypeId) (f:Nat):Option (Nat × Nat) :=
 match P.underlying t with
 | some (.struct fs)=>match fs[f]? with | some g=>some (g.offset,szOf P g.type) | none=>none
 | _=>none
def zfC (P:Program):Nat→TypeId→List Leaf
 | 0,_=>[.other]
 | n+1,t=>match P.underlying t with
  | some (.int k)=>[.int k]
  | some .bool=>[.bool]
  | some .string=>[.str]
  | some (.slice e)=>[.list (szOf P e)]
  | some (.struct fs)=>fs.toList.flatMap fun f=>zfC P n f.type
  | _=>[.other]
def zf4:Value→Option AV
 | .int k n=>some (.d (.int k n))
 | .bool b=>some (.d (.bool b))
 | .string s=>some (.d (.str s.data.toList))
 | .slice none 0 0=>some (.nil 0)
 | _=>none
def zex:List Value→Option (List AV)
 | []=>some []
 | v::r=>match zf4 v,zex r with | some a,some l=>some (a::l) | _,_=>none
def zhl:Value→Option AV
 | .agg cs=>match zex cs.toList with | some l=>some (.agg l) | none=>none
 | v=>zf4 v
def zjT (l:Leaf) (a:AV):AV:=match a,l with
 | .nil _,.list sz=>.nil sz
 | a,_=>a
def zby:List Leaf→List AV→List AV
 | l::ls,a::r=>zjT l a::zby ls r
 | _,r=>r
def zhw (P:Program) (t:TypeId) (a:AV):AV:=match a with
 | .nil sz=>match P.underlying t with | some (.slice e)=>.nil (szOf P e) | _=>.nil sz
 | a=>a
def zew (P:Program) (t:TypeId):Option (List AV):=match P.info? t with
 | some i=>match i.zero with | some v=>(match zhl v with | some a=>some (zby (zfC P 8 t) a.cells) | none=>none) | none=>none
 | none=>none
def zb3 (P:Program):Nat→TypeId→Nat
 | 0,_=>0
 | n+1,t=>match P.underlying t with
  | some (.slice e)=>zb3 P n e+1
  | some (.struct fs)=>fs.toList.foldl (fun m f=>Nat.max m (zb3 P n f.type)) 0
  | _=>0
def zgm (P:Program) (e:TypeId):Bool:=match P.info? e with
 | some i=>match i.zero with
  | some z=>Nat.beq z.cells.size i.size&&Nat.ble 1 i.size&&Nat.ble i.bytes 128
  | none=>false
 | none=>false
def D.isFn:D→Bool
 | .fn _ _=>true
 | _=>false
def zcM:AV→HA D
 | .d (.fn _ _)=>.fail
 | .d x=>.ret x
 | .pv sz l _ _ _ _=>.ret (.list sz l)
 | .s sz l=>.ret (.list sz l)
 | .nil sz=>.ret (.list sz [])
 | .own id n=>do match ← getB id with
  | .arr _ sz m xs _=>cond (Nat.beq m n) (.ret (.list sz xs)) .fail
  | .frz sz m xs=>cond (Nat.beq m n) (.ret (.list sz xs)) .fail
  | _=>.fail
 | _=>.fail
def ze0:AV→HA D
 | .d x=>.ret x
 | v=>zcM v
def zhY:List AV→HA (List D)
 | []=>.ret []
 | a::r=>do let x ← ze0 a;let y ← zhY r;.ret (x::y)
def zbG:List AV→HA Rows
 | []=>.ret []
 | .var id 0::r=>do match ← getB id with
  | .var cs=>let x ← zhY cs;let y ← zbG r;.ret (x::y)
  | _=>.fail
 | .cap xs 0::r=>do let y ← zbG r;.ret (xs::y)
 | _=>.fail
def snap:AV→HA D
 | .fn f caps=>do let cs ← zbG caps;.ret (.fn f cs)
 | v=>ze0 v
def zit:List AV→HA (List D)
 | []=>.ret []
 | a::r=>do let x ← snap a;let y ← zit r;.ret (x::y)
def freeze:AV→HA Unit
 | .own id n=>do match ← getB id with
  | .arr _ sz m xs _=>cond (Nat.beq m n) (putB id (.frz sz m xs)) .fail
  | .frz _ m _=>cond (Nat.beq m n) (.ret ()) .fail
  | _=>.fail
 | _=>.ret ()
def zii:List AV→HA Unit
 | []=>.ret ()
 | a::r=>do freeze a;zii r
def zbY:List AV→HA Unit
 | []=>.ret ()
 | .var id _::r=>do match ← getB id with
  | .var cs=>do zii cs;zbY r
  | _=>.fail
 | _::r=>zbY r
def zih:AV→HA Unit
 | .fn _ caps=>zbY caps
 | v=>freeze v
def zg3:List AV→HA Unit
 | []=>.ret ()
 | a::r=>do zih a;zg3 r
def ownQ:Cm→Option Nat
 | (d,0,_)=>some (d+1)
 | (_,_+1,_)=>some 1
def pvB (id e sz m:Nat) (xs:Rows) (cv i:Nat):Cm→HA (Option Nat)
 | (d+1,lo,cv')=>cond (Nat.beq cv' cv) (.cnd (Nat.ble lo i) (do putB id (.arr e sz m xs (d+1,i+1,cv'));.ret (some (d+1))) (.ret (some 0))) (.ret (some 0))
 | (0,_,_)=>.ret (some 0)
def zjh:AV→HA (Option Nat)
 | .own id n=>(getB id).bind fun
  | .arr _ _ m _ q=>cond (Nat.beq m n) (.ret (ownQ q)) (.ret (some 0))
  | _=>.ret (some 0)
 | .pv _ _ id n cv i=>(getB id).bind fun
  | .arr e sz m xs q=>cond (Nat.beq m n) (pvB id e sz m xs cv i q) (.ret (some 0))
  | _=>.ret (some 0)
 | .d (.list _ _)=>.ret (some 0)
 | .s _ _=>.ret (some 0)
 | .d _=>.ret none
 | .nil _=>.ret none
 | _=>.ret (some 0)
def minO:Option Nat→Option Nat→Option Nat
 | none,b=>b
 | a,none=>a
 | some a,some b=>some (Nat.min a b)
def nest:List AV→HA (List D × Option Nat)
 | []=>.ret ([],none)
 | a::r=>do let c ← zjh a;let x ← zcM a;freeze a;let y ← nest r;.ret (x::y.1,minO c y.2)
def capO (d:Nat):Option Nat→Nat
 | none=>d
 | some k=>Nat.min k d
def asD (l:List D):List AV:=l.map .d
def zis (l:Rows) (i off:Nat):Leaf→HA AV
 | .int k=>.oI (zm k l i off) fun n=>.ret (.d (.int k n))
 | .bool=>.oB (zan l i off) fun n=>.ret (.d (.bool n))
 | .str=>.oS (zbm l i off) fun n=>.ret (.d (.str n))
 | .list sz=>.oL (zw sz l i off) fun n=>.ret (.d (.list sz n))
 | .other=>.fail
def zha (l:Rows) (i:Nat):Nat→List Leaf→HA (List AV)
 | _,[]=>.ret []
 | off,k::r=>do let x ← zis l i off k;let y ← zha l i (off+1) r;.ret (x::y)
def zdk (P:Program) (t:TypeId) (l:Rows) (i off:Nat):HA AV :=
 match P.underlying t,zbC P t,zfC P 8 t with
 | some _,true,ks=>cond (Nat.beq ks.length (szOf P t)) (do let x ← zha l i off ks;.ret (.agg x)) .fail
 | some _,false,[k]=>zis l i off k
 | _,_,_=>.fail
def zj7 (id n cv i:Nat):AV→AV
 | .d (.list sz l)=>.pv sz l id n cv i
 | a=>a
def pvOf (id n cv i:Nat):AV→AV
 | .agg cs=>.agg (cs.map (zj7 id n cv i))
 | a=>zj7 id n cv i a
def zjY (P:Program) (t:TypeId) (q:Cm) (l:Rows) (id n i off:Nat):HA AV:=match q with
 | (0,_,_)=>zdk P t l i off
 | (_+1,_,cv)=>do let x ← zdk P t l i off;.ret (pvOf id n cv i x)
def zhK (P:Program) (t:TypeId) (cs:List AV) (off:Nat):HA AV :=
 match P.underlying t,zbC P t with
 | some _,true=>cond (Nat.ble (off+szOf P t) cs.length) (.ret (.agg ((cs.drop off).take (szOf P t)))) .fail
 | some _,false=>HA.of cs[off]?
 | none,_=>.fail
def load (P:Program) (t:TypeId):AV→HA AV
 | .var id off=>do match ← getB id with
  | .var cs=>zhK P t cs off
  | _=>.fail
 | .el id n i off=>do match ← getB id with
  | .arr _ _ m xs q=>cond (Nat.beq m n) (zjY P t q xs id n i off) .fail
  | .frz _ m xs=>cond (Nat.beq m n) (zdk P t xs i off) .fail
  | _=>.fail
 | .imm l i off=>zdk P t l i off
 | .cap xs off=>zhK P t (asD xs) off
 | _=>.fail
def zaN {α:Type} (cs:List α) (off:Nat) (vs:List α):List α:=cs.take off++vs++cs.drop (off+vs.length)
def zcW (q:Cm):Option Nat→Cm
 | none=>(q.1,q.2.1,q.2.2+1)
 | some k=>cond (Nat.ble q.1 k) (q.1,q.2.1,q.2.2+1) (0,0,0)
def store (P:Program) (t:TypeId):AV→AV→HA Unit
 | .var id off,v=>do match ← getB id with
  | .var cs=>cond (Nat.beq v.cells.length (szOf P t)&&(Nat.ble (off+szOf P t) cs.length&&Nat.ble 1 (szOf P t))) (putB id (.var (zaN cs off v.cells))) .fail
  | _=>.fail
 | .el id n i off,v=>do
  let y ← nest v.cells
  match ← getB id with
  | .arr e sz m xs q=>cond (Nat.beq m n&&Nat.beq v.cells.length (szOf P t)&&(Nat.ble (off+szOf P t) sz&&Nat.ble 1 (szOf P t))) (putB id (.arr e sz m (zai xs i off y.1) (zcW q y.2))) .fail
  | _=>.fail
 | _,_=>.fail
def opI (op:BinOp) (k:IntKind) (a b:Int):HA AV:=match op with
 | .add=>.ret (.d (.int k (k.wrap (a+b))))
 | .sub=>.ret (.d (.int k (k.wrap (a - b))))
 | .mul=>.ret (.d (.int k (k.wrap (a * b))))
 | .quo=>.cnd (b==0) .fail (.ret (.d (.int k (k.wrap (a.tdiv b)))))
 | .rem=>.cnd (b==0) .fail (.ret (.d (.int k (a.tmod b))))
 | .eql=>.ret (.d (.bool (a==b)))
 | .neq=>.ret (.d (.bool (a != b)))
 | .lss=>.ret (.d (.bool (decide (a < b))))
 | .leq=>.ret (.d (.bool (decide (a≤b))))
 | .gtr=>.ret (.d (.bool (decide (a > b))))
 | .geq=>.ret (.d (.bool (decide (a ≥ b))))
 | _=>.fail
def opS (op:BinOp) (a b:List UInt8):HA AV:=match op with
 | .add=>.cnd (fits (a.length+b.length)) (.ret (.d (.str (a++b)))) .fail
 | .eql=>.ret (.d (.bool (a==b)))
 | .neq=>.ret (.d (.bool (!(a==b))))
 | .lss=>.ret (.d (.bool (zaX a b)))
 | .leq=>.ret (.d (.bool (zaX a b||a==b)))
 | .gtr=>.ret (.d (.bool (!(zaX a b||a==b))))
 | .geq=>.ret (.d (.bool (!(zaX a b))))
 | _=>.fail
def zk2 (P:Program) (t:TypeId):Bool:=match P.underlying t with | some .bool=>true | _=>false
def zlh (P:Program) (t:TypeId):Bool:=match ((P.info? (P.underlyingId t)).map (·.desc):Option TypeDesc) with
 | some (.struct gs)=>P.cutTypes.toList.all fun c=>!(Nat.beq (P.underlyingId c.2) (P.underlyingId t))&&(match ((P.info? (P.underlyingId c.2)).map (·.desc):Option TypeDesc) with
  | some (.struct fs)=>!((fs.toList.map (·.name))==(gs.toList.map (·.name)))
  | _=>true)
 | _=>false
inductive FK where
 | int | bool | str
def zdV (P:Program) (f:TypeId):Option FK:=match P.underlying f with
 | some (.int _)=>some .int
 | some .bool=>some .bool
 | some .string=>some .str
 | _=>none
def eqF:FK→AV→AV→Option Bool
 | .int,.d (.int k a),.d (.int k' b)=>match decide (k=k') with | true=>some (a==b) | false=>none
 | .str,.d (.str a),.d (.str b)=>some (a==b)
 | .bool,.d (.bool a),.d (.bool b)=>some (a==b)
 | _,_,_=>none
def eqFs (P:Program):Nat→List Field→List AV→List AV→Option Bool
 | _,[],[],[]=>some true
 | i,f::fs,a::r,b::s=>cond (f.name != "_" && Nat.beq f.offset i) (match zdV P f.type with
  | some k=>match eqF k a b,eqFs P (i+1) fs r s with | some x,some y=>some (x&&y) | _,_=>none
  | none=>none) none
 | _,_,_,_=>none
def binOp (P:Program) (t:TypeId) (op:BinOp):AV→AV→HA AV
 | .d (.int k a),.d (.int k' b)=>match decide (k=k') with
  | true=>opI op k a b
  | false=>.fail
 | .d (.str a),.d (.str b)=>opS op a b
 | .d (.bool a),.d (.bool b)=>cond (zk2 P t) (match op with
  | .eql=>.ret (.d (.bool (a==b))) | .neq=>.ret (.d (.bool (!(a==b)))) | _=>.fail) .fail
 | .agg a,.agg b=>match P.underlying t with
  | some (.struct fs)=>cond (zlh P t) (match eqFs P 0 fs.toList a b with
   | some r=>(match op with
    | .eql=>.ret (.d (.bool r)) | .neq=>.ret (.d (.bool (!r))) | _=>.fail)
   | none=>.fail) .fail
  | _=>.fail
 | _,_=>.fail
def unOp (op:UnOp):AV→HA AV
 | .d (.bool b)=>match op with | .not=>.ret (.d (.bool (!b))) | _=>.fail
 | .d (.int k n)=>match op with | .neg=>.ret (.d (.int k (k.wrap (0 - n)))) | _=>.fail
 | _=>.fail
def zgr (P:Program) (t:TypeId):Bool:=match P.underlying t with | some (.struct fs)=>fs.toList.all fun g=>(P.info? g.type).isSome | _=>false
def zcT (P:Program) (t:TypeId):List (Nat × AV)→List AV→Option (List AV)
 | [],cs=>some cs
 | (i,v)::r,cs=>match zdi P t i with
  | some (off,sz)=>cond (Nat.beq v.cells.length sz&&Nat.ble (off+sz) cs.length) (zcT P t r (zaN cs off v.cells)) none
  | none=>none
def zeQ:Option AV→Option AV
 | some (.tup _)=>none
 | o=>o
def zbt (ρ:Operand→Option AV):List (Nat × Operand)→Option (List (Nat × AV))
 | []=>some []
 | (i,x)::r=>match zeQ (ρ x),zbt ρ r with | some v,some l=>some ((i,v)::l) | _,_=>none
def zcP (ρ:Operand→Option AV):List Operand→Option (List AV)
 | []=>some []
 | x::r=>match ρ x,zcP ρ r with | some v,some l=>some (v::l) | _,_=>none
def maxI (a b:Int):Int:=if b > a then b else a
def minI (a b:Int):Int:=if b < a then b else a
def zga (n:Nat):AV:=.d (.int .i64 (n:Int))
def zep (P:Program) (t:TypeId):Bool:=match P.underlying t with | some (.slice _)=>true | _=>false
def strT (P:Program) (t:TypeId):Bool:=match P.underlying t with | some .string=>true | _=>false
def lenA (P:Program) (t:TypeId):AV→HA AV
 | .d (.list _ xs)=>cond (zep P t) (.ret (zga xs.length)) .fail
 | .d (.str s)=>cond (strT P t) (.ret (zga s.length)) .fail
 | .nil _=>cond (zep P t) (.ret (zga 0)) .fail
 | .own id n=>cond (zep P t) (do match ← getB id with
  | .arr _ _ m xs _=>cond (Nat.beq m n) (.ret (zga xs.length)) .fail
  | .frz _ m xs=>cond (Nat.beq m n) (.ret (zga xs.length)) .fail
  | _=>.fail) .fail
 | _=>.fail
def zeE (sz:Nat):AV→HA Rows
 | .nil _=>.ret []
 | .d (.list sz' xs)=>cond (Nat.beq sz' sz) (.ret xs) .fail
 | .own id n=>do match ← getB id with
  | .arr _ sz' m xs _=>cond (Nat.beq m n&&Nat.beq sz' sz) (.ret xs) .fail
  | .frz sz' m xs=>cond (Nat.beq m n&&Nat.beq sz' sz) (.ret xs) .fail
  | _=>.fail
 | _=>.fail
def zm2 (id:Nat) (e sz m:Nat) (xs:Rows):Cm→HA Cm
 | (d+1,0,_)=>do putB id (.arr e sz m xs (0,0,0));.ret (d+1,0,0)
 | _=>.ret (0,0,0)
def zm3 (tgt:Nat):AV→HA Cm
 | .own id n=>cond (Nat.beq id tgt) (.ret (0,0,0)) ((getB id).bind fun
  | .arr e sz m xs q=>cond (Nat.beq m n) (zm2 id e sz m xs q) (.ret (0,0,0))
  | _=>.ret (0,0,0))
 | _=>.ret (0,0,0)
def zmV (tgt:Nat) (a:AV):Cm→HA Cm
 | (0,_,_)=>.ret (0,0,0)
 | (d+1,lo,cv)=>do let x ← zm3 tgt a;.ret (Nat.min (d+1) x.1,lo,cv)
def addQ (tgt:Nat) (q:Cm):AV→HA Cm
 | .nil _=>.ret q
 | a=>zmV tgt a q
def zib (P:Program) (t:TypeId) (nid:Nat) (s x:AV):HA AV :=
 match zbI P t with
 | none=>.fail
 | some e=>cond (zgm P e) (do
  let ys ← zeE (szOf P e) x
  match s with
  | .nil _=>do must (fits ys.length);let q ← addQ nid (zb3 P 8 e,0,0) x;newB nid (.arr e (szOf P e) 0 ys q);.ret (.own nid 0)
  | .own id n=>do match ← getB id with
   | .arr e' sz m xs q=>cond (Nat.beq e' e&&Nat.beq sz (szOf P e)&&Nat.beq m n) (do
     must (fits (xs.length+ys.length));let q' ← addQ id q x;putB id (.arr e sz (m+1) (xs++ys) q');.ret (.own id (m+1))) .fail
   | _=>.fail
  | _=>.fail) .fail
def cutA {α:Type} (lo hi:Option Int) (xs:List α):HA (List α):=match lo,hi with
 | some l,some h=>.cnd (inS l h xs.length) (.ret (cutL l h xs)) .fail
 | some l,none=>.cnd (inS l xs.length xs.length) (.ret (xs.drop l.toNat)) .fail
 | none,some h=>.cnd (inS 0 h xs.length) (.ret (xs.take h.toNat)) .fail
 | none,none=>.ret xs
def zkf (P:Program) (t:TypeId) (lo hi:Option Int):AV→HA AV
 | .d (.list sz xs)=>match zbI P t with
  | some e=>cond (Nat.beq sz (szOf P e)&&Nat.ble 1 sz) (do let ys ← cutA lo hi xs;.ret (.d (.list sz ys))) .fail
  | none=>.fail
 | .d (.str s)=>match P.underlying t with
  | some .string=>do let u ← cutA lo hi s;.ret (.d (.str u))
  | _=>.fail
 | .own id n=>match zbI P t with
  | some e=>do
   freeze (.own id n)
   match ← zcM (.own id n) with
   | .list sz xs=>cond (Nat.beq sz (szOf P e)&&Nat.ble 1 sz) (do let ys ← cutA lo hi xs;.ret (.d (.list sz ys))) .fail
   | _=>.fail
  | none=>.fail
 | _=>.fail
def zgt:AV→Option D
 | .d (.fn _ _)=>none
 | .d (.list _ _)=>none
 | .d x=>some x
 | .nil sz=>some (.list sz [])
 | _=>none
def zh6:List AV→Option (List D)
 | []=>some []
 | a::r=>match zgt a,zh6 r with | some x,some l=>some (x::l) | _,_=>none
def inM (n:Int):Bool:=decide (0≤n∧n≤1099511627776)
def zbi (n:Int) (z:List D):Rows:=List.replicate n.toNat z
def zlf (P:Program) (t:TypeId) (nid:Nat):AV→AV→HA AV
 | .d (.int _ n),.d (.int _ n')=>match zbI P t with
  | some e=>match zew P e with
   | some z=>match zh6 z with
    | some ds=>cond (zgm P e&&Nat.beq ds.length (szOf P e)) (.cnd (n==n') (.cnd (inM n) (do newB nid (.arr e (szOf P e) 0 (zbi n ds) (zb3 P 8 e,0,0));.ret (.own nid 0)) .fail) .fail) .fail
    | none=>.fail
   | none=>.fail
  | none=>.fail
 | _,_=>.fail
def zdD (ρ:Operand→Option AV):Option Operand→Option (Option Int)
 | none=>some none
 | some o=>match ρ o with | some (.d (.int _ n))=>some (some n) | _=>none
def zjU (P:Program) (t:TypeId) (a b:AV):HA AV:=match zbI P t,a,b with
 | some e,.d (.list sz xs),.d (.int _ i)=>cond (Nat.beq sz (szOf P e)&&Nat.ble 1 sz) (do must (inR i xs.length);.ret (.imm xs i.toNat 0)) .fail
 | some e,.own id n,.d (.int _ i)=>do match ← getB id with
  | .arr _ sz m xs _=>cond (Nat.beq m n&&(Nat.beq sz (szOf P e)&&Nat.ble 1 sz)) (do must (inR i xs.length);.ret (.el id n i.toNat 0)) .fail
  | .frz sz m xs=>cond (Nat.beq m n&&(Nat.beq sz (szOf P e)&&Nat.ble 1 sz)) (do must (inR i xs.length);.ret (.el id n i.toNat 0)) .fail
  | _=>.fail
 | _,_,_=>.fail
def zjP (P:Program) (t:TypeId) (f:Nat) (a:AV):HA AV:=match zdi P t f with
 | none=>.fail
 | some (_,0)=>.fail
 | some (o,_+1)=>match a with
  | .var id off=>.ret (.var id (off+o))
  | .el id n i off=>.ret (.el id n i (off+o))
  | .imm l i off=>.ret (.imm l i (off+o))
  | .cap xs off=>.ret (.cap xs (off+o))
  | _=>.fail
def argD (v:AV):HA AV:=match v with
 | .agg cs=>do let x ← zit cs;.ret (.agg (asD x))
 | .cap xs off=>.ret (.cap xs off)
 | v=>do let x ← snap v;.ret (.d x)
def zk1:List AV→HA (List AV)
 | []=>.ret []
 | a::r=>do let x ← argD a;let y ← zk1 r;.ret (x::y)
def depD:Nat→D→Bool
 | _,.int _ _=>true
 | _,.bool _=>true
 | _,.str _=>true
 | _,.fn _ _=>false
 | 0,.list _ xs=>xs.isEmpty
 | n+1,.list _ xs=>xs.all fun r=>r.all (depD n)
def depR (n:Nat) (xs:Rows):Bool:=xs.all fun r=>r.all (depD n)
inductive RK where
 | int (k:IntKind) | bool | str | ro (sz:Nat) | own (e sz:Nat) | fown (e sz d:Nat) | xown (e sz d:Nat)
abbrev Sig:=List (Bool × List RK)
def Leaf.ref:Leaf→Bool
 | .list _=>true
 | .other=>true
 | _=>false
def RK.ref (P:Program):RK→Bool
 | .ro _=>true
 | .own _ _=>true
 | .fown _ _ _=>true
 | _=>false
def Sig.hasRef (P:Program) (s:Sig):Bool:=s.any fun p=>p.2.any (RK.ref P)
def zec (r:Res) (base N:Nat) (b:Bool) (n i j:Nat):RK→HA AV
 | .int k=>.oI (resI k N b n r i j) fun n=>.ret (.d (.int k n))
 | .bool=>.oB (resB N b n r i j) fun n=>.ret (.d (.bool n))
 | .str=>.oS (resS N b n r i j) fun n=>.ret (.d (.str n))
 | .ro sz=>.oL (resL sz N b n r i j) fun xs=>.ret (.d (.list sz xs))
 | .own e sz=>.oL (resO e sz N b n r i j) fun xs=>do newB (base+i * 8+j) (.arr e sz 0 xs (0,0,0));.ret (.own (base+i * 8+j) 0)
 | .fown e sz d=>.oL (resF e sz d N b n r i j) fun xs=>do newB (base+i * 8+j) (.arr e sz 0 xs (d,0,0));.ret (.own (base+i * 8+j) 0)
 | .xown e sz d=>.oL (resF e sz d N b n r i j) fun xs=>.cnd (depR d xs) (do newB (base+i * 8+j) (.arr e sz 0 xs (d,0,0));.ret (.own (base+i * 8+j) 0)) .fail
def zdS (r:Res) (base N:Nat) (b:Bool) (n i:Nat):Nat→List RK→HA (List AV)
 | _,[]=>.ret []
 | j,k::ks=>do let x ← zec r base N b n i j k;let y ← zdS r base N b n i (j+1) ks;.ret (x::y)
def zhC (r:Res) (base N i:Nat):Bool × List RK→HA AV
 | (true,k::ks)=>do let x ← zdS r base N true (ks.length+1) i 0 (k::ks);.ret (.agg x)
 | (false,[k])=>zec r base N false 1 i 0 k
 | _=>.fail
def zij (r:Res) (base N:Nat):Nat→Sig→HA (List AV)
 | _,[]=>.ret []
 | i,s::ss=>do let x ← zhC r base N i s;let y ← zij r base N (i+1) ss;.ret (x::y)
def zhB (r:Res) (base:Nat):Sig→HA AV
 | []=>.cnd r.isEmpty (.ret (.tup [])) .fail
 | [s]=>zhC r base 1 0 s
 | ss=>do let x ← zij r base ss.length 0 ss;.ret (.tup x)
inductive Keep where
 | same | own (e sz:Nat) | fow (e sz d:Nat) | fowl (e sz d:Nat) | data (sz:Nat) | box (ks:List Keep)
abbrev zap:=List (Nat × Keep)
structure Hints where
 sig:FuncId→Sig
 loops:FuncId→Nat→zap
 joins:FuncId→Nat→Option Nat
def zk5 (P:Program) (s:Sig) (base:Nat) (f:FuncId) (args:List AV) (caps:List AV):HA AV:=do
 let xs ← zk1 args
 .call f (xs++caps) fun r=>match s.hasRef P with
  | true=>do zg3 (args.flatMap AV.cells);zhB r base s
  | false=>zhB r base s
def zpZ:Sig→Option Nat
 | [(true,[])]=>some 0
 | [(true,[]),(true,[])]=>some 1
 | [(true,[]),(false,[])]=>some 2
 | [(true,[]),(false,[]),(false,[])]=>some 3
 | _=>none
def isD:AV→Bool
 | .d _=>true
 | _=>false
def zak:AV:=.var 0 0
def zdU:Cm→Cm
 | (d,0,cv)=>(d,0,cv+1)
 | (_,_+1,_)=>(0,0,0)
def rawV (kind:Nat) (f:FuncId):List AV→HA AV
 | .own id n::rest=>cond (rest.all isD) (do match ← getB id with
  | .arr e sz m xs q=>cond (Nat.beq m n) (.call f (zak::.d (.int .i64 e)::.d (.list sz xs)::rest) fun r=>match kind with
   | 0=>.oL (resO e sz 1 false 1 r 0 0) fun zs=>do putB id (.arr e sz m zs (0,0,0));.ret (.tup [])
   | 1=>.oL (resO e sz 2 false 1 r 0 0) fun zs=>do putB id (.arr e sz (m+1) zs (0,0,0));.ret (.own id (m+1))
   | 2=>.oL (resF e sz 0 1 false 1 r 0 0) fun zs=>do putB id (.arr e sz m zs (zdU q));.ret (.tup [])
   | _=>.oL (resF e sz 0 2 false 1 r 0 0) fun zs=>do putB id (.arr e sz (m+1) zs (zdU q));.ret (.own id (m+1))) .fail
  | _=>.fail) .fail
 | _=>.fail
def zk4 (P:Program) (s:Sig) (base:Nat) (f:FuncId) (args:List AV):HA AV:=match zpZ s with
 | some k=>rawV k f (args.map AV.strip)
 | none=>zk5 P s base f args []
def zd7:Rows→Option (List UInt8)
 | []=>some []
 | [.int .u8 n]::r=>match decide (0≤n∧n < 256),zd7 r with | true,some l=>some (UInt8.ofNat n.toNat::l) | _,_=>none
 | _=>none
def zlC (P:Program) (src dst:TypeId):Bool:=match zbI P src,P.underlying dst with
 | some e,some .string=>match P.underlying e with | some (.int .u8)=>true | _=>false
 | _,_=>false
def conv (P:Program) (src dst:TypeId):AV→HA AV
 | .own id n=>cond (zlC P src dst) (do match ← getB id with
  | .arr _ sz m xs _=>cond (Nat.beq m n&&Nat.beq sz 1) (.oS (zd7 xs) fun s=>.ret (.d (.str s))) .fail
  | _=>.fail) .fail
 | .d (.int k n)=>match P.underlying src,P.underlying dst with | some (.int _),some (.int k')=>.ret (.d (.int k' (k'.wrap n))) | _,_=>.fail
 | v=>.fail
def rkOf:Leaf→Option RK
 | .int k=>some (.int k)
 | .bool=>some .bool
 | .str=>some .str
 | _=>none
def zmc (P:Program) (t:TypeId):Sig:=match zfC P 8 t with
 | [k]=>match rkOf k with | some x=>[(false,[x])] | none=>[]
 | _=>[]
def zen:Nat→List (Nat × AV)→Bool
 | _,[]=>true
 | k,(i,_)::r=>Nat.beq i k&&zen (k+1) r
def zdN:List (Nat × AV)→HA (Rows × Option Nat)
 | []=>.ret ([],none)
 | (_,v)::r=>do let x ← nest v.cells;let y ← zdN r;.ret (x.1::y.1,minO x.2 y.2)
def zm5:AV→Bool
 | .var _ _=>true
 | .cap _ _=>true
 | _=>false
def zcJ (P:Program) (sig:FuncId→Sig) (ρ:Operand→Option AV) (dst:Option Nat) (op:Op) (ty:TypeId):HA AV :=
 let base:=dst.getD 0 * 64
 match op with
 | .move x=>match ρ x with | some v=>.ret (zhw P ty v) | none=>.fail
 | .assign x=>match ρ x with | some v=>.ret (zhw P ty v) | none=>.fail
 | .pick c a b=>match ρ c with
  | some (.d (.bool t))=>.cnd t (HA.of (ρ a)) (HA.of (ρ b))
  | _=>.fail
 | .alloc e=>match zew P e with | some z=>do newB base (.var z);.ret (.var base 0) | none=>.fail
 | .box _ x=>match zeQ (ρ x) with | some v=>do newB base (.var v.cells);.ret (.var base 0) | none=>.fail
 | .build t ps=>match zew P t,zbt ρ ps.toList with
  | some z,some l=>cond (zgr P t) (match zcT P t l z with | some cs=>.ret (.agg cs) | none=>.fail) .fail
  | _,_=>.fail
 | .buildSlice t len ps=>match len with
  | 0=>match zbI P t,ps.toList with | some e,[]=>cond (P.info? e).isSome (.ret (.nil (szOf P e))) .fail | _,_=>.fail
  | _=>match zbI P t,zbt ρ ps.toList with
   | some e,some l=>match zgm P e&&(Nat.ble (len * szOf P e) 16777216&&(zen 0 l&&(Nat.beq l.length len&&l.all (fun p=>Nat.beq p.2.cells.length (szOf P e))))) with
    | true=>do
     let xs ← zdN l
     newB base (.arr e (szOf P e) 0 xs.1 (capO (zb3 P 8 e) xs.2,0,0))
     .ret (.own base 0)
    | false=>.fail
   | _,_=>.fail
 | .load t a=>match ρ a with | some v=>load P t v | none=>.fail
 | .store t a x=>match dst,ρ a,zeQ (ρ x) with | none,some v,some y=>do store P t v y;.ret (.tup []) | _,_,_=>.fail
 | .binOp o t x y _=>match ρ x,ρ y with | some a,some b=>binOp P t o a b | _,_=>.fail
 | .unOp o _ x=>match ρ x with | some a=>unOp o a | none=>.fail
 | .convert s d x=>match ρ x with | some a=>conv P s d a | none=>.fail
 | .makeFunc fn first caps=>match fn,first.toList,zcP ρ caps.toList with | .func f,[],some l=>cond (l.all zm5) (.ret (.fn f l)) .fail | _,_,_=>.fail
 | .fieldAddr t x f=>match ρ x with | some a=>zjP P t f a | none=>.fail
 | .indexAddr t x i=>match ρ x,ρ i with | some a,some b=>zjU P t a.strip b | _,_=>.fail
 | .slice t x lo hi mx=>match mx,ρ x,zdD ρ lo,zdD ρ hi with | none,some a,some l,some h=>zkf P t l h a.strip | _,_,_,_=>.fail
 | .extract x i=>match ρ x with | some (.tup vs)=>HA.of vs[i]? | _=>.fail
 | .index t x i=>match ρ x,ρ i with
  | some (.d (.str s)),some (.d (.int _ n))=>cond (strT P t) (.cnd (inR n s.length) (.ret (.d (.int .u8 (zbe s n)))) .fail) .fail
  | _,_=>.fail
 | .makeSlice t x y=>match ρ x,ρ y with | some a,some b=>zlf P t base a b | _,_=>.fail
 | .nilCheck x=>match ρ x with
  | some (.var id off)=>.ret (.var id off)
  | _=>.fail
 | .call c=>match zcP ρ c.args.toList with
  | none=>.fail
  | some args=>match c.callee with
   | .value (.func f)=>zk4 P (sig f) base f args
   | .value x=>match ρ x with
    | some (.d (.fn f caps))=>zk5 P (zmc P ty) base f args (caps.map fun c=>.cap c 0)
    | _=>.fail
   | .builtin .len=>match args,c.argTypes[0]? with | [a],some t=>lenA P t a.strip | _,_=>.fail
   | .builtin .max=>match args with | [.d (.int k a),.d (.int _ b)]=>.ret (.d (.int k (maxI a b))) | _=>.fail
   | .builtin .min=>match args with | [.d (.int k a),.d (.int _ b)]=>.ret (.d (.int k (minI a b))) | _=>.fail
   | .builtin .append=>match args,c.argTypes.toList with | [a,b],[t,t']=>cond (Nat.beq t' t) (zib P t base a.strip b.strip) .fail | _,_=>.fail
   | _=>.fail
 | _=>.fail
def zI (tm:Nat→Option AV):Operand→Option AV
 | .tmp t=>tm t
 | .const v=>zhl v
 | .func f=>some (.d (.fn f []))
 | .global _=>none
def setT (tm:Nat→Option AV) (t:Nat) (v:Option AV):Nat→Option AV:=fun i=>cond (Nat.beq i t) v (tm i)
def putT (tm:Nat→Option AV) (t:Option Nat) (v:Option AV):Nat→Option AV:=match t with | some t=>setT tm t v | none=>tm
def zcf (ops:List Oper) (o:Oper):Option (Option (Nat × Bool)):=match o.guard with
 | none=>some none
 | some (j,w)=>match ops[j]? with
  | some o'=>match o'.dst with | some t=>some (some (t,w)) | none=>none
  | none=>none
section
variable (P:Program) (sig:FuncId→Sig) (call:zi)
def zcl (o:Oper) (σ:St):Option (St × Log) :=
 match (zcJ P sig (zI σ.tm) o.dst o.op o.type).run call σ.hp [] with
 | some (v,h,l)=>some ({ tm:=putT σ.tm o.dst (some v),hp:=h },l)
 | none=>none
def zaJ (ops:List Oper) (o:Oper) (σ:St):Option (St × Log) :=
 match zcf ops o with
 | none=>none
 | some none=>zcl P sig call o σ
 | some (some (t,w))=>match σ.tm t with
  | some (.d (.bool b))=>cond (b==w) (zcl P sig call o σ) (some ({ tm:=putT σ.tm o.dst (some (.tup [])),hp:=σ.hp },[]))
  | some (.tup [])=>some ({ tm:=putT σ.tm o.dst (some (.tup [])),hp:=σ.hp },[])
  | _=>none
def zaz (ops:List Oper):List Oper→St→Option (St × List Log)
 | [],σ=>some (σ,[])
 | o::r,σ=>match zaJ P sig call ops o σ with
  | some (σ',l)=>match zaz ops r σ' with | some (σ'',ls)=>some (σ'',l::ls) | none=>none
  | none=>none
def zfe {R:Type} (o:Oper) (tm:Tm) (hp:Hp) (K:Tm→Hp→Log→Option R):Option R :=
 (zcJ P sig (zI tm) o.dst o.op o.type).runK call hp [] fun v h l=>K (putT tm o.dst (some v)) h l
def zgo {R:Type} (ops:List Oper) (o:Oper) (tm:Tm) (hp:Hp) (K:Tm→Hp→Log→Option R):Option R :=
 match zcf ops o with
 | none=>none
 | some none=>zfe P sig call o tm hp K
 | some (some (t,w))=>match tm t with
  | some (.d (.bool b))=>ite' b
    (cond w (zfe P sig call o (setT tm t (some (.d (.bool true)))) hp K) (K (putT (setT tm t (some (.d (.bool true)))) o.dst (some (.tup []))) hp []))
    (cond w (K (putT (setT tm t (some (.d (.bool false)))) o.dst (some (.tup []))) hp []) (zfe P sig call o (setT tm t (some (.d (.bool false)))) hp K))
  | some (.tup [])=>K (putT tm o.dst (some (.tup []))) hp []
  | _=>none
def zek {R:Type} (ops:List Oper):List Oper→Tm→Hp→List Log→(Tm→Hp→List Log→Option R)→Option R
 | [],tm,hp,ls,K=>K tm hp ls
 | o::r,tm,hp,ls,K=>zgo P sig call ops o tm hp fun tm' hp' l=>zek ops r tm' hp' (l::ls) K
end
def zc3 (l m:Log):Bool:=l.any fun p=>m.any fun q=>(p.1||q.1)&&Nat.beq p.2 q.2
def zb2 (e:Edge):Bool:=match e.ground with
 | .textOnly _=>false
 | .gcOnly _=>false
 | _=>true
def zbQ (ops:List Oper):Nat→Nat→Nat→Bool
 | 0,_,_=>false
 | n+1,j,i=>match ops[j]? with
  | some o=>o.after.toList.any (fun e=>zb2 e&&Nat.beq e.on i)||o.after.toList.any (fun e=>zb2 e&&zbQ ops n e.on i)
  | none=>false
def zhQ (ops:List Oper) (i:Nat) (l:Log):Nat→List Log→Bool
 | _,[]=>true
 | j,m::r=>(cond (zc3 l m) (zbQ ops 4 j i) true)&&zhQ ops i l (j+1) r
def zeC (ops:List Oper):Nat→List Log→Bool
 | _,[]=>true
 | i,l::r=>zhQ ops i l (i+1) r&&zeC ops (i+1) r
def zfr (ops:List Oper) (ls:List Log):Bool:=zeC ops 0 ls
inductive Ex where
 | normal | ret | exit (id:Nat)
def zbp:Code→Nat
 | .region id _ _=>id
 | .seq a _=>zbp a
 | .block _ c=>zbp c
 | .loop c=>zbp c
 | _=>0
inductive KC where
 | k (v:AV) | o (loc id n e sz:Nat) (c:Nat × Bool) | z (loc e sz d:Nat)
inductive KV where
 | c (x:KC) | box (id off:Nat) (xs:List KC)
def zgq:AV→Bool
 | .d _ | .s _ _ | .nil _ | .imm _ _ _ | .cap _ _=>true
 | _=>false
def ziJ (loc:Nat):Keep→AV→HA KC
 | .same,v=>cond (zgq v) (.ret (.k v)) .fail
 | .data sz,v=>match v with
  | .own id n=>do let x ← zcM v;freeze (.own id n);.ret (.k (.d x))
  | .nil _=>.ret (.k (.d (.list sz [])))
  | v=>cond (zgq v) (.ret (.k v)) .fail
 | .own e sz,v=>match v with
  | .nil _=>.ret (.z loc e sz 0)
  | .own id n=>.ret (.o loc id n e sz (0,false))
  | _=>.fail
 | .fow e sz d,v=>match v with
  | .nil _=>.ret (.z loc e sz d)
  | .own id n=>.ret (.o loc id n e sz (d,false))
  | _=>.fail
 | .fowl e sz d,v=>match v with
  | .nil _=>.ret (.z loc e sz d)
  | .own id n=>.ret (.o loc id n e sz (d,true))
  | _=>.fail
 | .box _,_=>.fail
def zdA (loc:Nat):Keep→AV→HA KC
 | .same,.s sz l=>.ret (.k (.s sz l))
 | k,v=>ziJ loc k v.strip
def zdT (loc:Nat):Nat→List Keep→List AV→HA (List KC)
 | _,[],[]=>.ret []
 | c,k::ks,v::vs=>do let x ← zdA (loc+c) k v;let y ← zdT loc (c+1) ks vs;.ret (x::y)
 | _,_,_=>.fail
def zkM (t:Nat):Keep→AV→HA KV
 | .box ks,v=>match v with
  | .var id off=>do match ← getB id with
   | .var cs=>do let ds ← zdT (200000+t * 16) 0 ks cs;.ret (.box id off ds)
   | _=>.fail
  | _=>.fail
 | k,v=>do let x ← zdA (100000+t) k v;.ret (.c x)
def zbq (tm:Nat→Option AV):zap→HA (List (Nat × KV))
 | []=>.ret []
 | (t,k)::r=>match tm t with
  | some v=>do let x ← zkM t k v;let y ← zbq tm r;.ret ((t,x)::y)
  | none=>.fail
def za5 {α:Type}:List (Nat × α)→Nat→Option α
 | [],_=>none
 | (t,v)::r,i=>cond (Nat.beq i t) (some v) (za5 r i)
def hpOf:List (Nat × Blk)→Hp
 | []=>fun _=>none
 | (i,b)::r=>fun j=>cond (Nat.beq j i) (some b) (hpOf r j)
def zaR:List Nat→Bool
 | []=>true
 | i::r=>!r.any (Nat.beq i)&&zaR r
abbrev NB:=Nat × Option Nat × Blk
def zgl:Nat × Bool→Cm→Option Cm
 | (0,_),_=>some (0,0,0)
 | (d+1,true),q=>cond (Nat.ble (d+1) q.1) (some (d+1,q.2.1,0)) none
 | (d+1,false),(d',0,_)=>cond (Nat.ble (d+1) d') (some (d+1,0,0)) none
 | (_+1,false),(_,_+1,_)=>none
def zgk (h:Hp):KC→Option (AV × List NB)
 | .k v=>some (v,[])
 | .z loc e sz d=>some (.own loc 0,[(loc,none,.arr e sz 0 [] (d,0,0))])
 | .o loc id n e sz c=>match h id with
  | some (.arr e' sz' m xs q)=>cond (Nat.beq e' e&&(Nat.beq sz' sz&&Nat.beq m n)) (match zgl c q with | some q'=>some (.own loc 0,[(loc,some id,.arr e sz 0 xs q')]) | none=>none) none
  | _=>none
def zfP (h:Hp):List KC→Option (List AV × List NB)
 | []=>some ([],[])
 | x::r=>match zgk h x,zfP h r with
  | some (v,b),some (vs,bs)=>some (v::vs,b++bs)
  | _,_=>none
def zlm (h:Hp):KV→Option (AV × List NB)
 | .c x=>zgk h x
 | .box id off xs=>match zfP h xs with
  | some (vs,bs)=>some (.var id off,(id,some id,.var vs)::bs)
  | none=>none
def zb1 (h:Hp):List (Nat × KV)→Option (List (Nat × AV) × List NB)
 | []=>some ([],[])
 | (t,x)::r=>match zlm h x,zb1 h r with
  | some (v,b),some (l,bs)=>some ((t,v)::l,b++bs)
  | _,_=>none
def srcs:List NB→List Nat
 | []=>[]
 | (_,some i,_)::r=>i::srcs r
 | (_,none,_)::r=>srcs r
def zei (l:List (Nat × KV)) (h:Hp):Option St :=
 match zb1 h l with
 | some (vs,bs)=>cond (zaR (bs.map fun b=>b.1)&&zaR (srcs bs)) (some { tm:=za5 vs,hp:=hpOf (bs.map fun b=>(b.1,b.2.2)) }) none
 | none=>none
def zb4 (call:zi) (h:zap) (σ:St):Option St :=
 match (zbq σ.tm h).run call σ.hp [] with
 | some (l,hp,_)=>zei l hp
 | none=>none
def zdq {R:Type} (call:zi) (h:zap) (tm:Tm) (hp:Hp) (K:Tm→Hp→Option R):Option R :=
 (zbq tm h).runK call hp [] fun l hp' _=>match zei l hp' with | some σ=>K σ.tm σ.hp | none=>none
def zcq:AV→Bool
 | .d (.int _ _)=>true
 | .d (.bool _)=>true
 | .d (.str _)=>true
 | .s _ _=>true
 | .nil _=>true
 | .own _ _=>true
 | .var _ _=>true
 | _=>false
def zlg:AV→Bool
 | .agg cs=>cs.all zcq
 | v=>zcq v
def depQ:Cm→Nat
 | (d,lo,_)=>cond (Nat.beq lo 0) d 0
def zb5 {R:Type} (K:Option R):List NB→Option R
 | []=>K
 | (_,_,.var cs)::r=>cond (cs.all zcq) (zb5 K r) none
 | (_,_,.arr _ _ _ xs q)::r=>ite' (depR (depQ q) xs) (zb5 K r) none
 | _=>none
def zhO (vs:List (Nat × AV)) (bs:List NB):Bool:=zaR (bs.map fun b=>b.1)&&(zaR (srcs bs)&&vs.all fun p=>zlg p.2)
def zdr (call:zi) (h:zap) (σ:St):Option St:=match (zbq σ.tm h).run call σ.hp [] with
 | some (l,hp,_)=>match zb1 hp l with
  | some (vs,bs)=>cond (zhO vs bs) (zb5 (some { tm:=za5 vs,hp:=hpOf (bs.map fun b=>(b.1,b.2.2)) }) bs) none
  | none=>none
 | none=>none
def zid {R:Type} (call:zi) (h:zap) (tm:Tm) (hp:Hp) (K:Tm→Hp→Option R):Option R :=
 (zbq tm h).runK call hp [] fun l hp' _=>match zb1 hp' l with
  | some (vs,bs)=>cond (zhO vs bs) (zb5 (K (za5 vs) (hpOf (bs.map fun b=>(b.1,b.2.2)))) bs) none
  | none=>none
inductive ML where
 | row (id e sz ver:Nat) (q:Cm) (xs:Rows) | any (x:D)
def zld:AV→HA ML
 | .own id n=>(getB id).bind fun
  | .arr e sz m xs q=>cond (Nat.beq m n) (.ret (.row id e sz m q xs)) .fail
  | _=>.fail
 | .d (.int k n)=>.ret (.any (.int k n))
 | .d (.bool b)=>.ret (.any (.bool b))
 | .d (.str b)=>.ret (.any (.str b))
 | _=>.fail
def zjX:List AV→HA (List ML)
 | []=>.ret []
 | a::r=>do let x ← zld a;let y ← zjX r;.ret (x::y)
def zf8:List ML→Args
 | []=>[]
 | .row _ e sz _ _ xs::r=>.d (.int .i64 e)::.d (.list sz xs)::zf8 r
 | .any x::r=>.d x::zf8 r
def zaM:List ML→List Nat
 | []=>[]
 | .row id _ _ _ _ _::r=>id::zaM r
 | .any _::r=>zaM r
def zjg (N:Nat) (r:Res):Nat→List ML→HA Unit
 | _,[]=>.ret ()
 | i,.row id e sz m q _::ls=>.oL (resO e sz N false 1 r i 0) fun zs=>do putB id (.arr e sz m zs (q.1,q.2.1,q.2.2+1));zjg N r (i+1) ls
 | i,.any _::ls=>zjg N r i ls
def aggA:AV→Bool
 | .agg _=>true
 | _=>false
def zhM (f:FuncId) (a:AV):AV→HA AV
 | .d (.int .i64 n)=>do
  let x ← zjX a.cells
  cond (zaR (zaM x)) (.call f (zak::.d (.bool (aggA a))::.d (.int .i64 n)::zf8 x) fun r=>do
   zjg ((zaM x).length+1) r 0 x
   .oI (resI .i64 ((zaM x).length+1) false 1 r (zaM x).length 0) fun k=>.ret (.d (.int .i64 k))) .fail
 | _=>.fail
def zhL (ρ:Operand→Option AV) (o:Oper):Option (FuncId × AV × AV):=match o.guard,o.op with
 | none,.call c=>match c.callee,c.args.toList with
  | .value (.func f),[x,y]=>match ρ x,ρ y with
   | some a,some b=>some (f,a,b)
   | _,_=>none
  | _,_=>none
 | _,_=>none
def zds:List Oper→Tm→Tm
 | [],tm=>tm
 | o::r,tm=>zds r (putT tm o.dst none)
def calm (ls:List Log):Bool:=ls.all fun l=>l.all fun p=>!p.1
section
variable (P:Program) (hs:Hints) (call:zi) (fid:FuncId)
def zgd (step:St→Option (Ex × St)) (cl:St→Option St):Nat→St→Option (Ex × St)
 | 0,_=>none
 | k+1,σ=>match step σ with
  | some (.normal,σ')=>match cl σ' with | some σ''=>zgd step cl k σ'' | none=>none
  | r=>r
def zfu (id:Nat) (ops:List Oper) (σ:St):Option (Ex × St):=match zdr call (hs.loops fid id) σ with
 | none=>none
 | some σ1=>match zaz P hs.sig call ops ops.dropLast.dropLast σ1 with
  | none=>none
  | some (σ2,ls)=>cond (calm ls) (match ops.drop (ops.length - 2) with
   | [oc,oa]=>match zhL (zI σ2.tm) oc with
    | some (f,a,b)=>match (zhM f a b).run call σ2.hp [] with
     | some (v,hp',_)=>match zaJ P hs.sig call ops oa { tm:=putT (zds ops.dropLast.dropLast σ1.tm) oc.dst (some v),hp:=hp' } with
      | some (σ3,_)=>some (.normal,σ3)
      | none=>none
     | none=>none
    | none=>none
   | _=>none) none
def zam (k:Nat):Code→St→Option (Ex × St)
  | .skip,σ=>some (.normal,σ)
  | .region id ops draw,σ=>match hs.joins fid id with
   | some _=>cond draw none (zfu P hs call fid id ops.toList σ)
   | none=>match zaz P hs.sig call ops.toList ops.toList σ with
    | some (σ',ls)=>cond (!draw||zfr ops.toList ls) (some (.normal,σ')) none
    | none=>none
  | .seq a b,σ=>match zam k a σ with
    | some (.normal,σ')=>zam k b σ'
    | r=>r
  | .cond c a b,σ=>match zI σ.tm c with
    | some (.d (.bool t))=>cond t (zam k a σ) (zam k b σ)
    | _=>none
  | .block id c,σ=>match zam k c σ with
      | some (.exit i,σ')=>cond (Nat.beq i id) (some (.normal,σ')) (some (.exit i,σ'))
      | r=>r
  | .loop c,σ=>match zb4 call (hs.loops fid (zbp c)) σ with
    | some σ0=>zgd (zam k c) (zb4 call (hs.loops fid (zbp c))) k σ0
    | none=>none
  | .exit id,σ=>some (.exit id,σ)
  | .ret,σ=>some (.ret,σ)
  | _,_=>none
abbrev Cont (R:Type):=Ex→Tm→Hp→Option R
def zgc {R:Type} (step:Tm→Hp→Cont R→Option R) (cl:Tm→Hp→(Tm→Hp→Option R)→Option R) (K:Cont R):Nat→Tm→Hp→Option R
 | 0,_,_=>none
 | k+1,tm,hp=>step tm hp fun e tm' hp'=>match e with
  | .normal=>cl tm' hp' fun tm'' hp''=>zgc step cl K k tm'' hp''
  | .ret=>K .ret tm' hp'
  | .exit i=>K (.exit i) tm' hp'
def seqK {R:Type} (next:Tm→Hp→Cont R→Option R) (K:Cont R):Cont R:=fun e tm hp=>match e with
 | .normal=>next tm hp K
 | .ret=>K .ret tm hp
 | .exit i=>K (.exit i) tm hp
def zfj {R:Type} (id:Nat) (K:Cont R):Cont R:=fun e tm hp=>match e with
 | .exit i=>cond (Nat.beq i id) (K .normal tm hp) (K (.exit i) tm hp)
 | .normal=>K .normal tm hp
 | .ret=>K .ret tm hp
def zkU {R:Type} (ops:List Oper) (draw:Bool) (K:Cont R) (tm:Tm) (hp:Hp) (ls:List Log):Option R:=cond (!draw||zfr ops ls.reverse) (K .normal tm hp) none
def zif {R:Type} (id:Nat) (ops:List Oper) (tm:Tm) (hp:Hp) (K:Cont R):Option R:=zid call (hs.loops fid id) tm hp fun tm1 hp1 =>
 zek P hs.sig call ops ops.dropLast.dropLast tm1 hp1 [] fun tm2 hp2 ls=>cond (calm ls) (match ops.drop (ops.length - 2) with
   | [oc,oa]=>match zhL (zI tm2) oc with
    | some (f,a,b)=>(zhM f a b).runK call hp2 [] fun v hp' _=>zgo P hs.sig call ops oa (putT (zds ops.dropLast.dropLast tm1) oc.dst (some v)) hp' fun tm3 hp3 _=>K .normal tm3 hp3
    | none=>none
   | _=>none) none
def zaA {R:Type} (k:Nat):Code→Tm→Hp→Cont R→Option R
 | .skip,tm,hp,K=>K .normal tm hp
 | .region id ops draw,tm,hp,K=>match hs.joins fid id with
  | none=>zek P hs.sig call ops.toList ops.toList tm hp [] (zkU ops.toList draw K)
  | some _=>cond draw none (zif P hs call fid id ops.toList tm hp K)
 | .seq a b,tm,hp,K=>zaA k a tm hp (seqK (zaA k b) K)
 | .cond c a b,tm,hp,K=>match zI tm c with
  | some (.d (.bool t))=>ite' t (zaA k a tm hp K) (zaA k b tm hp K)
  | _=>none
 | .block id c,tm,hp,K=>zaA k c tm hp (zfj id K)
 | .loop c,tm,hp,K=>zdq call (hs.loops fid (zbp c)) tm hp fun tm0 hp0=>zgc (zaA k c) (zdq call (hs.loops fid (zbp c))) K k tm0 hp0
 | .exit id,tm,hp,K=>K (.exit id) tm hp
 | .ret,tm,hp,K=>K .ret tm hp
 | _,_,_,_=>none
def zoX {R:Type} (step:Tm→Hp→Cont R→Option R) (cl:Tm→Hp→(Tm→Hp→Option R)→Option R) (K:Cont R) (k:Nat):Cont R:=fun e tm hp=>match e with
 | .normal=>cl tm hp fun tm'' hp''=>zgc step cl K k tm'' hp''
 | .ret=>K .ret tm hp
 | .exit i=>K (.exit i) tm hp
def zdw {R:Type} (k:Nat):Code→List Nat→List Nat→Cont R→Cont R
 | .seq a b,0::p,ks,K=>zdw k a p ks (seqK (zaA P hs call fid k b) K)
 | .seq _ b,_::p,ks,K=>zdw k b p ks K
 | .cond _ a _,0::p,ks,K=>zdw k a p ks K
 | .cond _ _ b,_::p,ks,K=>zdw k b p ks K
 | .block id c,_::p,ks,K=>zdw k c p ks (zfj id K)
 | .loop c,_::p,k'::ks,K=>zdw k c p ks (zoX (zaA P hs call fid k c) (zdq call (hs.loops fid (zbp c))) K k')
 | _,_,_,K=>K
def zdu:Code→List Nat→Code
 | .seq a b,d::p=>cond (Nat.beq d 0) (zdu a p) (zdu b p)
 | .cond _ a b,d::p=>cond (Nat.beq d 0) (zdu a p) (zdu b p)
 | .block _ c,_::p=>zdu c p
 | .loop c,_::p=>zdu c p
 | c,_=>c
def zoL {R:Type} (k:Nat) (root:Code) (K:Cont R) (p ks:List Nat) (n:Nat) (tm:Tm) (hp:Hp):Option R :=
 match zdu root p with
 | .loop c=>zgc (zaA P hs call fid k c) (zdq call (hs.loops fid (zbp c))) (zdw P hs call fid k root p ks K) n tm hp
 | _=>none
def zf9 (k:Option RK):AV→HA RL
 | .d x=>.ret (.d x)
 | .pv sz l _ _ _ _=>.ret (.d (.list sz l))
 | .s sz l=>.ret (.d (.list sz l))
 | .nil _=>.ret .nil
 | .own id n=>do match ← getB id with
  | .arr e sz m xs q=>cond (Nat.beq m n) (match k with
   | some (.xown _ _ d)=>(match q with
    | (d',0,_)=>cond (Nat.ble d d') (.put id none (.ret (.frow e sz d xs))) .fail
    | (_,_+1,_)=>.fail)
   | some (.fown _ _ d)=>(match q with
    | (d',0,_)=>cond (Nat.ble d d') (.put id none (.ret (.frow e sz d xs))) .fail
    | (_,_+1,_)=>.fail)
   | _=>.put id none (.ret (.row e sz xs))) .fail
  | .frz sz m xs=>cond (Nat.beq m n) (.ret (.d (.list sz xs))) .fail
  | _=>.fail
 | _=>.fail
def zg2:List RK→List AV→HA (List RL)
 | _,[]=>.ret []
 | ks,a::r=>do let x ← zf9 ks.head? a;let y ← zg2 ks.tail r;.ret (x::y)
def zjO (ks:List RK):AV→HA (Bool × List RL)
 | .agg cs=>do let x ← zg2 ks cs;.ret (true,x)
 | v=>do let x ← zf9 ks.head? v;.ret (false,[x])
def zig:Sig→List AV→HA Res
 | _,[]=>.ret []
 | sg,v::vs=>do let x ← zjO (match sg.head? with | some p=>p.2 | none=>[]) v;let y ← zig sg.tail vs;.ret (x::y)
def zj8 (tm:Nat→Option AV):ResultVar→HA AV
 | .tmp t=>HA.of (zeQ (tm t))
 | .cell a t=>match tm a with | some v=>load P t v | none=>.fail
def ziq (tm:Nat→Option AV):List ResultVar→HA (List AV)
 | []=>.ret []
 | r::rs=>do let x ← zj8 P tm r;let y ← ziq tm rs;.ret (x::y)
def zht (sg:Sig) (tm:Nat→Option AV) (rs:List ResultVar):HA Res:=do let vs ← ziq P tm rs;zig sg vs
def zc2:List AV→Nat→Nat→Option AV
 | [],_=>fun _=>none
 | a::r,i=>fun j=>cond (Nat.beq j i) (some a) (zc2 r (i+1) j)
def enter (args:List AV):St:={ tm:=zc2 args 0,hp:=fun _=>none }
def zbh (fn:Func) (σ:St):Option Res:=match (zht P (hs.sig fid) σ.tm fn.results.toList).run call σ.hp [] with
 | some (r,_,_)=>some r
 | none=>none
def evFn (k:Nat) (fn:Func) (args:List AV):Option Res :=
 match fn.body with
 | none=>none
 | some c=>match zam P hs call fid k c (enter args) with
  | some (.normal,σ)=>zbh P hs call fid fn σ
  | some (.ret,σ)=>zbh P hs call fid fn σ
  | _=>none
def zdj (fn:Func) (tm:Tm) (hp:Hp):Option Res:=(zht P (hs.sig fid) tm fn.results.toList).runK call hp [] fun r _ _=>some r
def endK (fn:Func):Cont Res:=fun e tm hp=>match e with
 | .normal=>zdj P hs call fid fn tm hp
 | .ret=>zdj P hs call fid fn tm hp
 | .exit _=>none
def zfk (fn:Func):Code:=match fn.body with | some c=>c | none=>.refuse ""
def zc5 (k:Nat) (fn:Func) (args:List AV):Option Res:=zaA P hs call fid k (zfk fn) (zc2 args 0) (fun _=>none) (endK P hs call fid fn)
def zt (k:Nat) (fn:Func) (p ks:List Nat) (n:Nat) (l:List (Nat × AV)) (h:List (Nat × Blk)):Option Res:=zoL P hs call fid k (zfk fn) (endK P hs call fid fn) p ks n (za5 l) (hpOf h)
end
def zco:Args→Bool
 | .var _ _::_=>true
 | _=>false
def zbo (P:Program) (hs:Hints) (prim:FuncId→Option (Args→Option Res)):Nat→zi
 | 0=>fun _ _=>none
 | k+1=>fun f args=>match prim f with
  | some p=>p args
  | none=>cond (zco args) none (match P.funcs[f]? with
   | some fn=>zc5 P hs (zbo P hs prim k) f k fn args
   | none=>none)
end Ovi
namespace Ovi
open Go Go.RowKit
inductive RD (w:World) (S T:Nat→Prop):Value→D→Prop where
 | int (k:IntKind) (n:Int):RD w S T (.int k n) (.int k n)
 | bool (b:Bool):RD w S T (.bool b) (.bool b)
 | str (b:ByteArray):RD w S T (.string b) (.str b.data.toList)
 | list (A:Option Addr) (cap sz:Nat) (xs:Rows) (g:Nat→Nat→Value) (h1:xs.length≤cap)
   (h3:∀ (i:Nat) (x:List D),xs[i]? = some x→x.length=sz)
   (h4:∀ i c x,zk xs i c=some x→∃ ad,A=some ad∧S ad.block∧w.cell? (ad.add (i * sz+c))=some (g i c))
   (h5:∀ i c x,zk xs i c=some x→RD w S T (g i c) x) (h6:∀ i c x,zk xs i c=some x→x.isFn=false):RD w S T (.slice A xs.length cap) (.list sz xs)
 | fn (f:FuncId) (vs:Array Value) (caps:Rows) (g:Nat→Nat→Value) (h1:vs.size=caps.length)
   (h4:∀ (j:Nat) (xs:List D),caps[j]? = some xs→∃ ad,vs[j]? = some (.pointer (some ad))∧∀ (c:Nat) (x:D),xs[c]? = some x→T ad.block∧w.cell? (ad.add c)=some (g j c))
   (h5:∀ j c x,zk caps j c=some x→RD w S T (g j c) x):RD w S T (.func (.func f) #[] vs) (.fn f caps)
def Stab (S:Nat→Prop) (w w':World):Prop:=∀ k,S k→w'.heap[k]? = w.heap[k]?
theorem Stab.refl (S:Nat→Prop) (w:World):Stab S w w:=fun _ _=>rfl
theorem Stab.trans {S:Nat→Prop} {a b c:World} (h:Stab S a b) (k:Stab S b c):Stab S a c:=fun i hi=>(k i hi).trans (h i hi)
theorem Stab.sub {S S':Nat→Prop} {w w':World} (h:Stab S w w') (hs:∀ k,S' k→S k):Stab S' w w':=fun k hk=>h k (hs k hk)
theorem Stab.cell {S:Nat→Prop} {w w':World} (h:Stab S w w') {a:Addr} (ha:S a.block):w'.cell? a=w.cell? a:=World.cell?_of_block (h _ ha)
theorem zbA (a:Addr) (n:Nat):(a.add n).block=a.block:=by unfold Addr.add;split<;>rfl
theorem zf5 (a:Addr) (x y:Nat):(a.add x).add y=a.add (x+y):=by
 unfold Addr.add
 by_cases h1:x=0<;>by_cases h2:y=0<;>simp [h1,h2,Nat.add_assoc]
theorem add_at (b x y:Nat):(⟨b,x,none⟩:Addr).add y=⟨b,x+y,none⟩:=by
 unfold Addr.add
 by_cases h2:y=0<;>simp [h2]
theorem RD.mono {w w':World} {S S' T T':Nat→Prop} (hs:Stab S w w') (ht:Stab T w w') (hS:∀ k,S k→S' k) (hT:∀ k,T k→T' k) {v:Value} {x:D} (h:RD w S T v x):RD w' S' T' v x:=by
 induction h with
 | int k n=>exact .int k n
 | bool b=>exact .bool b
 | str b=>exact .str b
 | list A cap sz xs g h1 h3 h4 h5 h6 ih =>
  refine .list A cap sz xs g h1 h3 (fun i c x hx=>?_) (fun i c x hx=>ih i c x hx) h6
  obtain ⟨ad,e,hb,hc⟩:=h4 i c x hx
  exact ⟨ad,e,hS _ hb,by rw [hs.cell (by rw [zbA];exact hb)];exact hc⟩
 | fn f vs caps g h1 h4 h5 ih =>
  refine .fn f vs caps g h1 (fun j xs hx=>?_) (fun i c x hx=>ih i c x hx)
  obtain ⟨ad,e,hc⟩:=h4 j xs hx
  exact ⟨ad,e,fun c x hx=>⟨hT _ (hc c x hx).1,by rw [ht.cell (by rw [zbA];exact (hc c x hx).1)];exact (hc c x hx).2⟩⟩
theorem RD.noFn {w:World} {S T T':Nat→Prop} {v:Value} {x:D} (h:RD w S T v x):x.isFn=false→RD w S T' v x:=by
 induction h with
 | int k n=>exact fun _=>.int k n
 | bool b=>exact fun _=>.bool b
 | str b=>exact fun _=>.str b
 | list A cap sz xs g h1 h3 h4 h5 h6 ih=>exact fun _=>.list A cap sz xs g h1 h3 h4 (fun i c x hx=>ih i c x hx (h6 i c x hx)) h6
 | fn f vs caps g h1 h4 h5 ih=>exact fun h=>by cases h
def zb0 (b off:Nat):Value:=.pointer (some ⟨b,off,none⟩)
def CellsAt (w:World) (B S T:Nat→Prop) (v:Value) (cell:Nat→Option D):Prop :=
 ∃ ad,v=.pointer (some ad)∧∀ c x,cell c=some x→B ad.block∧∃ u,w.cell? (ad.add c)=some u∧RD w S T u x
def OwnC (w:World) (mo:Option Nat) (e sz:Nat) (v:Value) (n:Nat):Prop:=match mo with
 | none=>n=0∧∃ A,v=.slice A 0 0
 | some b=>∃ cap cur,v=.slice (some ⟨b,0,none⟩) n cap∧w.heap[b]? = some (.cells cur e (0,0))∧n≤cap∧cap≤maxLen∧cur.size=cap * sz
abbrev MapM:=Nat→Option Nat
def Fo:Nat→World→Value→D→(Nat→Prop)→Prop
 | 0,_,_,_,_=>True
 | n+1,w,v,x,B=>match x with
  | .list sz xs=>xs=[]∨∃ (b cap:Nat) (cur:Array Value) (e:Nat) (g:Nat→Nat→Nat→Prop),v=.slice (some ⟨b,0,none⟩) xs.length cap∧w.heap[b]? = some (.cells cur e (0,0))∧xs.length≤cap∧cap≤maxLen∧cur.size=cap * sz∧B b ∧
    (∀ i c k,g i c k→B k∧k≠b)∧(∀ i c i' c' k,g i c k→g i' c' k→i=i'∧c=c')∧∀ i c y,zk xs i c=some y→∃ u,cur[i * sz+c]? = some u∧Fo n w u y (g i c)
  | _=>True
theorem Fo.stab {w w':World}:∀ {n:Nat} {v:Value} {x:D} {B B':Nat→Prop},(∀ k,B k→w'.heap[k]? = w.heap[k]?)→(∀ k,B k→B' k)→Fo n w v x B→Fo n w' v x B'
 | 0,v,x,B,B',h,hB,hf=>True.intro
 | n+1,v,x,B,B',h,hB,hf=>by
  cases x with
  | list sz xs =>
   rcases hf with hf | ⟨b,cap,cur,e,g,h1,h2,h3,h4,h5,h6,h7,h8,h9⟩
   ·exact .inl hf
   ·refine .inr ⟨b,cap,cur,e,g,h1,(h b h6).trans h2,h3,h4,h5,hB b h6,fun i c k hk=>⟨hB k (h7 i c k hk).1,(h7 i c k hk).2⟩,h8,fun i c y hy=>?_⟩
    obtain ⟨u,hu,hfu⟩:=h9 i c y hy
    exact ⟨u,hu,Fo.stab (fun k hk=>h k (h7 i c k hk).1) (fun k hk=>hk) hfu⟩
  | _=>exact True.intro
theorem Fo.down {w:World}:∀ {n m:Nat} {v:Value} {x:D} {B:Nat→Prop},m≤n→Fo n w v x B→Fo m w v x B
 | _,0,v,x,B,_,_=>True.intro
 | 0,m+1,v,x,B,h,_=>by omega
 | n+1,m+1,v,x,B,h,hf=>by
  cases x with
  | list sz xs =>
   rcases hf with hf | ⟨b,cap,cur,e,g,h1,h2,h3,h4,h5,h6,h7,h8,h9⟩
   ·exact .inl hf
   ·refine .inr ⟨b,cap,cur,e,g,h1,h2,h3,h4,h5,h6,h7,h8,fun i c y hy=>?_⟩
    obtain ⟨u,hu,hfu⟩:=h9 i c y hy
    exact ⟨u,hu,Fo.down (by omega) hfu⟩
  | _=>exact True.intro
def pvC (w:World) (mo:Option Nat) (blk:Option Blk) (ver cv i:Nat) (v:Value) (szv:Nat) (l:Rows):Prop:=match blk with
 | some (.arr e sz ver' xs q)=>ver≤ver'∧(ver'=ver→0 < q.1→cv≤q.2.2∧(q.2.2=cv→∃ b cur c sz',mo=some b∧w.heap[b]? = some (.cells cur e (0,0))∧cur[i * sz+c]? = some v∧zk xs i c=some (.list sz' l)∧(l=[]∨sz'=szv)))
 | some (.frz _ _ _)=>True
 | _=>False
section
variable (w:World) (S T:Nat→Prop) (hp:Hp) (m:MapM)
def capC (v:Value):AV→Prop
 | .var id off=>(∃ cs,hp id=some (.var cs))∧∃ b,m id=some b∧v=zb0 b off
 | .cap xs off=>CellsAt w T S T v fun c=>xs[off+c]?
 | _=>False
def leafC (v:Value):AV→Prop
 | .d x=>RD w S T v x
 | .pv sz l id ver cv i=>RD w S T v (.list sz l)∧pvC w (m id) (hp id) ver cv i v sz l
 | .s sz l=>RD w S T v (.list sz l)∧(∀ k,T k→S k)∧RD w T T v (.list sz l)
 | .nil _=>∃ A,v=.slice A 0 0
 | .own id ver=>v.oneCell'=true∧match hp id with
  | some (.arr e sz ver' xs _)=>ver≤ver'∧(ver'=ver→OwnC w (m id) e sz v xs.length)
  | some (.frz sz ver' xs)=>ver'=ver→RD w S T v (.list sz xs)
  | _=>False
 | .var id off=>(∃ cs,hp id=some (.var cs))∧∃ b,m id=some b∧v=zb0 b off
 | .el id ver i off=>(∃ ad:Addr,v=.pointer (some ad))∧match hp id with
  | some (.arr _ sz ver' xs _)=>ver≤ver'∧(ver'=ver→i < xs.length∧∃ b,m id=some b∧v=zb0 b (i * sz+off))
  | some (.frz _ ver' xs)=>ver'=ver→CellsAt w S S T v fun c=>zk xs i (off+c)
  | _=>False
 | .imm l i off=>CellsAt w S S T v fun c=>zk l i (off+c)
 | .cap xs off=>CellsAt w T S T v fun c=>xs[off+c]?
 | .fn f caps=>∃ vs,v=.func (.func f) #[] vs∧vs.size=caps.length∧∀ (j:Nat) (a:AV),caps[j]? = some a→∃ u,vs[j]? = some u∧capC w S T hp m u a
 | .agg _=>False
 | .tup _=>False
end
def Leaves (R:Value→AV→Prop) (vs:Array Value) (cs:List AV):Prop:=vs.size=cs.length∧∀ (j:Nat) a,cs[j]? = some a→∃ u,vs[j]? = some u∧R u a
section
variable (w:World) (S T:Nat→Prop) (hp:Hp) (m:MapM)
def valC (v:Value):AV→Prop
 | .agg cs=>∃ vs,v=.agg vs∧Leaves (leafC w S T hp m) vs cs
 | a=>leafC w S T hp m v a
def AC (v:Value):AV→Prop
 | .tup l=>∃ vs,v=.tuple vs∧Leaves (valC w S T hp m) vs l
 | a=>valC w S T hp m v a
end
theorem CellsAt.mono {w w':World} {B B' S S' T T':Nat→Prop} (hb:Stab B w w') (hs:Stab S w w') (ht:Stab T w w') (hB:∀ k,B k→B' k) (hS:∀ k,S k→S' k) (hT:∀ k,T k→T' k) {v:Value} {f:Nat→Option D} (h:CellsAt w B S T v f):CellsAt w' B' S' T' v f:=by
 obtain ⟨ad,e,h⟩:=h
 refine ⟨ad,e,fun c x hx=>?_⟩
 obtain ⟨h1,u,h2,h3⟩:=h c x hx
 exact ⟨hB _ h1,u,by rw [hb.cell (by rw [zbA];exact h1)];exact h2,h3.mono hs ht hS hT⟩
def hot:Option Blk→Bool
 | some (.var _)=>true
 | some (.arr _ _ _ _ _)=>true
 | _=>false
structure Cl (base:Nat) (w:World) (S T:Nat→Prop) (hp:Hp) (m:MapM) (G:Nat→Nat→Nat→Nat→Prop):Prop where
 gs:∀ id i c k,G id i c k→S k∧base≤k∧¬ T k
 gd:∀ id i c id' i' c' k,G id i c k→G id' i' c' k→id=id'∧i=i'∧c=c'
 gf:∀ id e sz ver xs d lo cv b cur,hp id=some (.arr e sz ver xs (d,lo,cv))→0 < d→m id=some b→w.heap[b]? = some (.cells cur e (0,0))→∀ i c x,lo≤i→zk xs i c=some x→∃ u,cur[i * sz+c]? = some u∧Fo d w u x (G id i c)
structure Inv (base:Nat) (w0 w:World) (S0 S T:Nat→Prop) (hp:Hp) (m:MapM):Prop where
 below:Below base w0 w
 bsz:base≤w.heap.size
 tlt:∀ k,T k→k < base∨S k
 s0:∀ k,S0 k→S k
 s1:∀ k,S k→S0 k∨base≤k
 s0lt:∀ k,S0 k→k < base
 slt:∀ k,S k→k < w.heap.size
 rng:∀ id b,hot (hp id)=true→m id=some b→base≤b∧b < w.heap.size∧¬ S b
 inj:∀ id id' b,hot (hp id)=true→hot (hp id')=true→m id=some b→m id'=some b→id=id'
 var:∀ id cs,hp id=some (.var cs)→∃ b c e,m id=some b∧w.heap[b]? = some (.cells c e (0,0))∧Leaves (leafC w S T hp m) c cs
 arr:∀ id e sz ver xs q,hp id=some (.arr e sz ver xs q)→(∀ (i:Nat) (x:List D),xs[i]? = some x→x.length=sz)∧match m id with
  | none=>xs=[]
  | some b=>∃ cur,w.heap[b]? = some (.cells cur e (0,0))∧xs.length * sz≤cur.size∧∀ i c x,zk xs i c=some x→x.isFn=false∧∃ v,cur[i * sz+c]? = some v∧RD w S T v x
 cl:∃ G,Cl base w S T hp m G
theorem Inv.tl {base:Nat} {w0 w:World} {S0 S T:Nat→Prop} {hp:Hp} {m:MapM} (h:Inv base w0 w S0 S T hp m) {k:Nat} (hk:T k):k < w.heap.size:=by
 rcases h.tlt k hk with h1 | h1
 ·exact Nat.lt_of_lt_of_le h1 h.bsz
 ·exact h.slt k h1
theorem Inv.hotT {base:Nat} {w0 w:World} {S0 S T:Nat→Prop} {hp:Hp} {m:MapM} (h:Inv base w0 w S0 S T hp m) {id b:Nat} (hh:hot (hp id)=true) (hm:m id=some b):¬ T b:=fun hk=>by
 obtain ⟨h1,_,h3⟩:=h.rng id b hh hm
 rcases h.tlt b hk with h2 | h2
 ·omega
 ·exact h3 h2
def TmOk (w:World) (S T:Nat→Prop) (hp:Hp) (m:MapM) (tm:Nat→Option AV) (tmps:Array Value):Prop :=
 ∀ t a,tm t=some a→∃ v,tmps[t]? = some v∧AC w S T hp m v a
def Same (w w':World) (hp hp':Hp) (m m':MapM) (id:Nat):Prop :=
 hp' id=hp id∧m' id=m id∧∀ b cur e,hot (hp id)=true→m id=some b→w.heap[b]? = some (.cells cur e (0,0))→w'.heap[b]? = some (.cells cur e (0,0))
theorem Cl.mono {base:Nat} {w w':World} {S S' T:Nat→Prop} {hp hp':Hp} {m m':MapM} {G:Nat→Nat→Nat→Nat→Prop} (h:Cl base w S T hp m G) (hs:Stab S w w') (hS:∀ k,S k→S' k)
  (ho:∀ id e sz ver xs d lo cv b cur,hp' id=some (.arr e sz ver xs (d,lo,cv))→0 < d→m' id=some b→w'.heap[b]? = some (.cells cur e (0,0)) →
   ∃ ver0 d0 lo0 cv0,hp id=some (.arr e sz ver0 xs (d0,lo0,cv0))∧d≤d0∧lo0≤lo∧m id=some b∧w.heap[b]? = some (.cells cur e (0,0))):Cl base w' S' T hp' m' G where
 gs:=fun id i c k hk=>⟨hS k (h.gs id i c k hk).1,(h.gs id i c k hk).2⟩
 gd:=h.gd
 gf:=fun id e sz ver xs d lo cv b cur h1 h2 h3 h4 i c x h5 h6=>by
  obtain ⟨ver0,d0,lo0,cv0,k1,k2,k3,k4,k5⟩:=ho id e sz ver xs d lo cv b cur h1 h2 h3 h4
  obtain ⟨u,hu,hf⟩:=h.gf id e sz ver0 xs d0 lo0 cv0 b cur k1 (by omega) k4 k5 i c x (by omega) h6
  exact ⟨u,hu,Fo.stab (fun k hk=>hs k (h.gs id i c k hk).1) (fun _ h=>h) (hf.down k2)⟩
theorem OwnC.mono {w w':World} {mo:Option Nat} {e sz:Nat} {v:Value} {n:Nat} (h:OwnC w mo e sz v n) (hb:∀ b cur e,mo=some b→w.heap[b]? = some (.cells cur e (0,0))→∃ cur',w'.heap[b]? = some (.cells cur' e (0,0))∧cur'.size=cur.size):OwnC w' mo e sz v n:=by
 cases mo with
 | none=>exact h
 | some b =>
  obtain ⟨cap,cur,h1,h2,h3,h4,h5⟩:=h
  obtain ⟨cur',h6,h7⟩:=hb b cur e rfl h2
  exact ⟨cap,cur',h1,h6,h3,h4,h7.trans h5⟩
section
variable {w w':World} {S S' T:Nat→Prop} {hp hp':Hp} {m m':MapM}
theorem capC.mono (hs:Stab S w w') (ht:Stab T w w') (hS:∀ k,S k→S' k) (hv:∀ id,(∃ cs,hp id=some (.var cs))→(∃ cs,hp' id=some (.var cs))∧m' id=m id) {v:Value}:∀ {a:AV},capC w S T hp m v a→capC w' S' T hp' m' v a
 | .var id off,⟨h1,b,h2,h3⟩=>by
  obtain ⟨h4,h5⟩:=hv id h1
  exact ⟨h4,b,h5.trans h2,h3⟩
 | .cap xs off,h=>CellsAt.mono ht hs ht (fun _ h=>h) hS (fun _ h=>h) h
 | .d _,h=>h.elim
 | .pv _ _ _ _ _ _,h=>h.elim
 | .s _ _,h=>h.elim
 | .nil _,h=>h.elim
 | .own _ _,h=>h.elim
 | .el _ _ _ _,h=>h.elim
 | .imm _ _ _,h=>h.elim
 | .fn _ _,h=>h.elim
 | .agg _,h=>h.elim
 | .tup _,h=>h.elim
theorem leafC.mono (hs:Stab S w w') (ht:Stab T w w') (hS:∀ k,S k→S' k)
  (hv:∀ id,(∃ cs,hp id=some (.var cs))→(∃ cs,hp' id=some (.var cs))∧m' id=m id)
  (ho:∀ id ver v,leafC w S T hp m v (.own id ver)→leafC w' S' T hp' m' v (.own id ver))
  (hq:∀ id ver cv i v s x,pvC w (m id) (hp id) ver cv i v s x→pvC w' (m' id) (hp' id) ver cv i v s x)
  (he:∀ id ver i off v,leafC w S T hp m v (.el id ver i off)→leafC w' S' T hp' m' v (.el id ver i off)) {v:Value}:∀ {a:AV},leafC w S T hp m v a→leafC w' S' T hp' m' v a
 | .d _,h=>RD.mono hs ht hS (fun _ h=>h) h
 | .pv _ _ _ _ _ _,h=>⟨RD.mono hs ht hS (fun _ h=>h) h.1,hq _ _ _ _ _ _ _ h.2⟩
 | .s _ _,h=>⟨RD.mono hs ht hS (fun _ h=>h) h.1,fun k hk=>hS k (h.2.1 k hk),RD.mono ht ht (fun _ h=>h) (fun _ h=>h) h.2.2⟩
 | .nil _,h=>h
 | .own _ _,h=>ho _ _ _ h
 | .var id off,⟨h1,b,h2,h3⟩=>by
  obtain ⟨h4,h5⟩:=hv id h1
  exact ⟨h4,b,h5.trans h2,h3⟩
 | .el _ _ _ _,h=>he _ _ _ _ _ h
 | .imm _ _ _,h=>CellsAt.mono hs hs ht hS hS (fun _ h=>h) h
 | .cap _ _,h=>CellsAt.mono ht hs ht (fun _ h=>h) hS (fun _ h=>h) h
 | .fn f caps,⟨vs,h1,h2,h3⟩=>⟨vs,h1,h2,fun j a ha=>by
  obtain ⟨u,hu,hc⟩:=h3 j a ha
  exact ⟨u,hu,capC.mono hs ht hS hv hc⟩⟩
 | .agg _,h=>h.elim
 | .tup _,h=>h.elim
theorem Leaves.mono {R R':Value→AV→Prop} (h:∀ v a,R v a→R' v a) {vs:Array Value} {cs:List AV} (hl:Leaves R vs cs):Leaves R' vs cs :=
 ⟨hl.1,fun j a ha=>let ⟨u,hu,hr⟩:=hl.2 j a ha;⟨u,hu,h _ _ hr⟩⟩
theorem valC.mono (h:∀ v a,leafC w S T hp m v a→leafC w' S' T hp' m' v a) {v:Value} {a:AV} (hv:valC w S T hp m v a):valC w' S' T hp' m' v a:=by
 cases a with
 | agg cs=>obtain ⟨vs,e,hl⟩:=hv;exact ⟨vs,e,hl.mono h⟩
 | _=>simp only [valC] at hv ⊢;exact h _ _ hv
theorem AC.mono (h:∀ v a,leafC w S T hp m v a→leafC w' S' T hp' m' v a) {v:Value} {a:AV} (hv:AC w S T hp m v a):AC w' S' T hp' m' v a:=by
 cases a with
 | tup cs=>obtain ⟨vs,e,hl⟩:=hv;exact ⟨vs,e,hl.mono fun v a=>valC.mono h⟩
 | agg cs=>exact valC.mono (a:=.agg cs) h hv
 | _=>simp only [AC,valC] at hv ⊢;exact h _ _ hv
theorem TmOk.mono (h:∀ v a,leafC w S T hp m v a→leafC w' S' T hp' m' v a) {tm:Nat→Option AV} {tmps:Array Value} (ht:TmOk w S T hp m tm tmps):TmOk w' S' T hp' m' tm tmps :=
 fun t a ha=>let ⟨v,hv,hc⟩:=ht t a ha;⟨v,hv,hc.mono h⟩
theorem zdE (hs:Stab S w w') (ht:Stab T w w') (hS:∀ k,S k→S' k) {id:Nat} (hid:(hp id).isSome=true→Same w w' hp hp' m m' id) {ver:Nat} {v:Value} (h:leafC w S T hp m v (.own id ver)):leafC w' S' T hp' m' v (.own id ver):=by
 simp only [leafC] at h ⊢
 refine ⟨h.1,?_⟩
 replace h:=h.2
 cases hb:hp id with
 | none=>rw [hb] at h;exact h.elim
 | some b =>
  obtain ⟨h1,h2,h3⟩:=hid (by simp [hb])
  rw [h1,hb]
  rw [hb] at h
  cases b with
  | var cs=>exact h.elim
  | arr e sz ver' xs q=>rw [h2];exact ⟨h.1,fun hv=>(h.2 hv).mono fun b cur e hm hh=>⟨cur,h3 b cur e (by rw [hb];rfl) hm hh,rfl⟩⟩
  | frz sz ver' xs=>exact fun hv=>(h hv).mono hs ht hS fun _ h=>h
theorem zd9 (hs:Stab S w w') (ht:Stab T w w') (hS:∀ k,S k→S' k) {id:Nat} (hid:(hp id).isSome=true→Same w w' hp hp' m m' id) {ver i off:Nat} {v:Value} (h:leafC w S T hp m v (.el id ver i off)):leafC w' S' T hp' m' v (.el id ver i off):=by
 simp only [leafC] at h ⊢
 refine ⟨h.1,?_⟩
 replace h:=h.2
 cases hb:hp id with
 | none=>rw [hb] at h;exact h.elim
 | some b =>
  obtain ⟨h1,h2,h3⟩:=hid (by simp [hb])
  rw [h1,hb]
  rw [hb] at h
  cases b with
  | var cs=>exact h.elim
  | arr e sz ver' xs q=>rw [h2];exact h
  | frz sz ver' xs=>exact fun hv=>(h hv).mono hs hs ht hS hS fun _ h=>h
theorem zeh {id:Nat} (hid:(hp id).isSome=true→Same w w' hp hp' m m' id) {ver cv i:Nat} {v:Value} {s:Nat} {x:Rows} (h:pvC w (m id) (hp id) ver cv i v s x):pvC w' (m' id) (hp' id) ver cv i v s x:=by
 cases hb:hp id with
 | none=>rw [hb] at h;exact h.elim
 | some b =>
  obtain ⟨h1,h2,h3⟩:=hid (by simp [hb])
  rw [h1,hb]
  rw [hb] at h
  cases b with
  | var cs=>exact h.elim
  | arr e sz ver' xs q =>
   rw [h2]
   refine ⟨h.1,fun hv hd=>⟨(h.2 hv hd).1,fun hc=>?_⟩⟩
   obtain ⟨b,cur,c,s',k1,k2,k3,k4⟩:=(h.2 hv hd).2 hc
   exact ⟨b,cur,c,s',k1,h3 b cur e (by rw [hb];rfl) k1 k2,k3,k4⟩
  | frz sz ver' xs=>exact True.intro
theorem leafC.same (hs:Stab S w w') (ht:Stab T w w') (hS:∀ k,S k→S' k) (hid:∀ id,(hp id).isSome=true→Same w w' hp hp' m m' id) {v:Value} {a:AV} (h:leafC w S T hp m v a):leafC w' S' T hp' m' v a:=by
 refine leafC.mono hs ht hS (fun id hx=>?_) (fun id ver v h=>zdE hs ht hS (hid id) h) (fun id ver cv i v s x h=>zeh (hid id) h) (fun id ver i off v h=>zd9 hs ht hS (hid id) h) h
 obtain ⟨cs,hx⟩:=hx
 obtain ⟨h1,h2,_⟩:=hid id (by simp [hx])
 exact ⟨⟨cs,h1.trans hx⟩,h2⟩
end
end Ovi
namespace Ovi
open Go Go.RowKit
section
variable {P:Program} {w:World} {t:TypeId}
theorem zkr {d:TypeDesc} (h:P.underlying t=some d):∃ i,P.info? t=some i:=by
 unfold Program.underlying at h
 cases hi:P.info? t with
 | some i=>exact ⟨i,rfl⟩
 | none=>simp [hi] at h
theorem zeV {i:TypeInfo} (h:P.info? t=some i):(Go.sizeOf t).run P w=.ok (szOf P t) w:=by
 simp [Go.sizeOf,typeInfo,h,szOf]
theorem zet {i:TypeInfo} (h:P.info? t=some i):szOf P t=i.size:=by simp [szOf,h]
theorem zi1 {d:TypeDesc} (h:P.underlying t=some d):(isAgg t).run P w=.ok (zbC P t) w:=by
 unfold isAgg zbC
 rw [h]
 cases d<;>simp [run_underlying h]
theorem zjb {a:Addr} {v:Value} (h:w.cell? a=some v):(Go.load a).run P w=.ok v w:=by
 simp [Go.load,Sem.run,h]
theorem zel {d:TypeDesc} (h:P.underlying t=some d) (ha:zbC P t=true) (ad:Addr) (cs:List Value) (hl:cs.length=szOf P t) (hc:∀ j v,cs[j]? = some v→w.cell? (ad.add j)=some v) :
  (Instr.loadAt t (.pointer (some ad))).run P w=.ok (.agg cs.toArray) w:=by
 obtain ⟨i,hi⟩:=zkr h
 have h1:=run_loadCells_list (P:=P) w ad cs hc
 rw [hl] at h1
 simp [Instr.loadAt,Instr.sureAddr,loadVar,zi1 h,ha,zeV hi,h1]
theorem zem {d:TypeDesc} (h:P.underlying t=some d) (ha:zbC P t=false) (ad:Addr) {v:Value} (hc:w.cell? ad=some v) :
  (Instr.loadAt t (.pointer (some ad))).run P w=.ok v w:=by
 have h2:=zjb (P:=P) hc
 simp only [Go.load] at h2
 simp [Instr.loadAt,Instr.sureAddr,loadVar,zi1 h,ha,Go.load,h2]
end
section
variable {w:World} {S T:Nat→Prop} {v:Value}
theorem RD.nil_sz {sz sz':Nat} (h:RD w S T v (.list sz [])):RD w S T v (.list sz' []):=by
 cases h with
 | list A cap _ _ g h1 h3 h4 h5 h6=>exact .list A cap sz' [] g h1 (fun i x hx=>by simp at hx) (fun i c x hx=>by simp [zk] at hx) (fun i c x hx=>by simp [zk] at hx) (fun i c x hx=>by simp [zk] at hx)
theorem zjC {k:IntKind} {d:D} {n:Int} (h:D.asI k d=some n):d=.int k n:=by
 cases d<;>simp [D.asI] at h
 obtain ⟨rfl,rfl⟩:=h
 rfl
theorem zjB {d:D} {n:Bool} (h:D.asB d=some n):d=.bool n:=by
 cases d<;>simp [D.asB] at h
 rw [h]
theorem zjE {d:D} {n:List UInt8} (h:D.asS d=some n):d=.str n:=by
 cases d<;>simp [D.asS] at h
 rw [h]
theorem zjD {sz:Nat} {d:D} {xs:Rows} (h:D.asL sz d=some xs) (hr:RD w S T v d):RD w S T v (.list sz xs):=by
 cases d with
 | list sz' ys =>
  simp only [D.asL] at h
  split at h
  ·rename_i hc
   injection h with h
   subst h
   rcases hc with rfl | hc
   ·exact hr
   ·obtain rfl:ys=[]:=by simpa using hc
    exact hr.nil_sz
  ·cases h
 | _=>simp [D.asL] at h
end
section
variable {P:Program} {call:zi} {hp hp':Hp} {l l':Log}
theorem run_bind {α β:Type} (m:HA α) (f:α→HA β):∀ (hp:Hp) (l:Log),(m.bind f).run call hp l=match m.run call hp l with | some (a,h',l')=>(f a).run call h' l' | none=>none:=by
 induction m with
 | ret a=>intro hp l;rfl
 | fail=>intro hp l;rfl
 | get id k ih=>intro hp l;exact ih _ _ _
 | put id b k ih=>intro hp l;exact ih _ _
 | cnd b x y ihx ihy=>intro hp l;cases b;exact ihy _ _;exact ihx _ _
 | oI o k ih=>intro hp l;cases o;rfl;exact ih _ _ _
 | oB o k ih=>intro hp l;cases o;rfl;exact ih _ _ _
 | oS o k ih=>intro hp l;cases o;rfl;exact ih _ _ _
 | oL o k ih=>intro hp l;cases o;rfl;exact ih _ _ _
 | call f asv k ih =>
  intro hp l
  simp only [HA.bind,HA.run]
  cases call f asv with
  | none=>rfl
  | some r=>exact ih _ _ _
theorem run_bind' {α β:Type} (m:HA α) (f:α→HA β) (hp:Hp) (l:Log):(m >>= f).run call hp l=match m.run call hp l with | some (a,h',l')=>(f a).run call h' l' | none=>none:=run_bind m f hp l
theorem bind_some {α β:Type} {m:HA α} {f:α→HA β} {r:β × Hp × Log} (h:(m >>= f).run call hp l=some r):∃ a h1 l1,m.run call hp l=some (a,h1,l1)∧(f a).run call h1 l1=some r:=by
 rw [run_bind'] at h
 cases hm:m.run call hp l with
 | none=>rw [hm] at h;cases h
 | some x=>obtain ⟨a,h1,l1⟩:=x;rw [hm] at h;exact ⟨a,h1,l1,rfl,h⟩
theorem zae {id:Nat} {b:Blk} {h1:Hp} {l1:Log} (h:(getB id).run call hp l=some (b,h1,l1)):hp id=some b∧h1=hp:=by
 simp only [getB,HA.run] at h
 cases hb:hp id with
 | none=>rw [hb] at h;cases h
 | some x=>rw [hb] at h;simp only [HA.run,Option.some.injEq,Prod.mk.injEq] at h;exact ⟨by rw [h.1],h.2.1.symm⟩
theorem zcV {b:Bool} {h1:Hp} {l1:Log} {u:Unit} (h:(must b).run call hp l=some (u,h1,l1)):b=true∧h1=hp:=by
 cases b with
 | false=>simp [must,HA.run] at h
 | true=>simp only [must,HA.run,cond_true,Option.some.injEq,Prod.mk.injEq] at h;exact ⟨rfl,h.2.1.symm⟩
theorem ze {α:Type} {a b:α} {h1:Hp} {l1:Log} (h:(HA.ret a).run call hp l=some (b,h1,l1)):b=a∧h1=hp:=by
 simp only [HA.run,Option.some.injEq,Prod.mk.injEq] at h
 exact ⟨h.1.symm,h.2.1.symm⟩
theorem zB {α:Type} {b:Bool} {m:HA α} {r:α × Hp × Log} (h:(cond b m .fail).run call hp l=some r):b=true∧m.run call hp l=some r:=by
 cases b with
 | false=>cases h
 | true=>exact ⟨rfl,h⟩
theorem zbD {α:Type} {b:Bool} {m:HA α} {r:α × Hp × Log} (h:(HA.cnd b m .fail).run call hp l=some r):b=true∧m.run call hp l=some r:=by
 cases b with
 | false=>simp [HA.run] at h
 | true=>exact ⟨rfl,h⟩
theorem ziB {α:Type} {b:Bool} {m:HA α} {r:α × Hp × Log} (h:(HA.cnd b .fail m).run call hp l=some r):b=false∧m.run call hp l=some r:=by
 cases b with
 | true=>simp [HA.run] at h
 | false=>exact ⟨rfl,h⟩
theorem zeg {α:Type} {o:Option α} {a:α} {h1:Hp} {l1:Log} (h:(HA.of o).run call hp l=some (a,h1,l1)):o=some a∧h1=hp:=by
 cases o with
 | none=>cases h
 | some x=>obtain ⟨rfl,rfl⟩:=ze h;exact ⟨rfl,rfl⟩
theorem zee {α:Type} {o:Option (Int)} {k:Int→HA α} {r:α × Hp × Log} (h:(HA.oI o k).run call hp l=some r):∃ a,o=some a∧(k a).run call hp l=some r:=by
 cases o with
 | none=>cases h
 | some a=>exact ⟨a,rfl,h⟩
theorem zge {α:Type} {o:Option (Bool)} {k:Bool→HA α} {r:α × Hp × Log} (h:(HA.oB o k).run call hp l=some r):∃ a,o=some a∧(k a).run call hp l=some r:=by
 cases o with
 | none=>cases h
 | some a=>exact ⟨a,rfl,h⟩
theorem zef {α:Type} {o:Option (List UInt8)} {k:List UInt8→HA α} {r:α × Hp × Log} (h:(HA.oS o k).run call hp l=some r):∃ a,o=some a∧(k a).run call hp l=some r:=by
 cases o with
 | none=>cases h
 | some a=>exact ⟨a,rfl,h⟩
theorem zat {α:Type} {o:Option (Rows)} {k:Rows→HA α} {r:α × Hp × Log} (h:(HA.oL o k).run call hp l=some r):∃ a,o=some a∧(k a).run call hp l=some r:=by
 cases o with
 | none=>cases h
 | some a=>exact ⟨a,rfl,h⟩
theorem zfm {α:Type} {f:FuncId} {asv:Args} {k:Res→HA α} {r:α × Hp × Log} (h:(HA.call f asv k).run call hp l=some r):∃ a,call f asv=some a∧(k a).run call hp l=some r:=by
 unfold HA.run at h
 cases hc:call f asv with
 | none=>rw [hc] at h;cases h
 | some a=>rw [hc] at h;exact ⟨a,rfl,h⟩
def CL (d y:D):Prop:=∀ sz l,y=.list sz l→∃ sz',d=.list sz' l∧(l=[]∨sz'=sz)
theorem zhR {rs:Rows} {i off:Nat}:∀ {k:Leaf} {x:AV},(zis rs i off k).run call hp l=some (x,hp',l') →
  hp'=hp∧∃ d y,zk rs i off=some d∧x=.d y∧y.isFn=false∧(∀ w S T v,RD w S T v d→RD w S T v y)∧CL d y
 | .int k,x,h=>by
  obtain ⟨a,ha,h⟩:=zee h
  obtain ⟨rfl,rfl⟩:=ze h
  simp only [zm,Option.bind_eq_some_iff] at ha
  obtain ⟨d,hd,ha⟩:=ha
  obtain rfl:=zjC ha
  exact ⟨rfl,_,_,hd,rfl,rfl,fun _ _ _ _ h=>h,fun _ _ h=>nomatch h⟩
 | .bool,x,h=>by
  obtain ⟨a,ha,h⟩:=zge h
  obtain ⟨rfl,rfl⟩:=ze h
  simp only [zan,Option.bind_eq_some_iff] at ha
  obtain ⟨d,hd,ha⟩:=ha
  obtain rfl:=zjB ha
  exact ⟨rfl,_,_,hd,rfl,rfl,fun _ _ _ _ h=>h,fun _ _ h=>nomatch h⟩
 | .str,x,h=>by
  obtain ⟨a,ha,h⟩:=zef h
  obtain ⟨rfl,rfl⟩:=ze h
  simp only [zbm,Option.bind_eq_some_iff] at ha
  obtain ⟨d,hd,ha⟩:=ha
  obtain rfl:=zjE ha
  exact ⟨rfl,_,_,hd,rfl,rfl,fun _ _ _ _ h=>h,fun _ _ h=>nomatch h⟩
 | .list sz,x,h=>by
  obtain ⟨a,ha,h⟩:=zat h
  obtain ⟨rfl,rfl⟩:=ze h
  simp only [zw,Option.bind_eq_some_iff] at ha
  obtain ⟨d,hd,ha⟩:=ha
  exact ⟨rfl,_,_,hd,rfl,rfl,fun _ _ _ _ h=>zjD ha h,fun sz0 l h=>by
   cases h
   cases d<;>simp only [D.asL] at ha<;>first | cases ha;done | skip
   split at ha
   ·rename_i hc
    cases ha
    rcases hc with hc | hc
    ·exact ⟨_,rfl,.inr hc⟩
    ·exact ⟨_,rfl,.inl (by simpa using hc)⟩
   ·cases ha⟩
 | .other,x,h=>by cases h
theorem zgO {rs:Rows} {i:Nat}:∀ {ks:List Leaf} {off:Nat} {x:List AV} {hp hp':Hp} {l l':Log},(zha rs i off ks).run call hp l=some (x,hp',l') →
  hp'=hp∧x.length=ks.length∧∀ (j:Nat) a,x[j]? = some a→∃ d y,zk rs i (off+j)=some d∧a=.d y∧y.isFn=false∧(∀ w S T v,RD w S T v d→RD w S T v y)∧CL d y
 | [],off,x,hp,hp',l,l',h=>by
  obtain ⟨rfl,rfl⟩:=ze h
  exact ⟨rfl,rfl,fun j a ha=>by simp at ha⟩
 | k::r,off,x,hp,hp',l,l',h=>by
  obtain ⟨a,h1,l1,ha,h⟩:=bind_some h
  obtain ⟨b,h2,l2,hb,h⟩:=bind_some h
  obtain ⟨rfl,rfl⟩:=ze h
  obtain ⟨rfl,hc⟩:=zhR ha
  obtain ⟨rfl,hl,hcs⟩:=zgO hb
  refine ⟨rfl,by simp [hl],fun j a' ha'=>?_⟩
  cases j with
  | zero=>simp only [List.getElem?_cons_zero,Option.some.injEq] at ha';subst ha';exact hc
  | succ j =>
   simp only [List.getElem?_cons_succ] at ha'
   have:=hcs j a' ha'
   rwa [show off+1+j=off+(j+1) by omega] at this
end
section
variable {P:Program} {call:zi} {hp hp':Hp} {l l':Log} {w:World} {S T:Nat→Prop} {m:MapM} {t:TypeId} {v:Value} {x:AV}
theorem CellsAt.cell_eq {B:Nat→Prop} {f:Nat→Option D} (h:CellsAt w B S T v f):∃ ad,v=.pointer (some ad)∧∀ c d,f c=some d→∃ u,w.cell? (ad.add c)=some u∧RD w S T u d:=by
 obtain ⟨ad,e,h⟩:=h
 exact ⟨ad,e,fun c d hd=>(h c d hd).2⟩
def LR (w:World) (ad:Addr) (f:Nat→Option D) (u:Value):AV→Prop
 | .agg a=>∃ us,u=.agg us∧us.size=a.length∧∀ (j:Nat) b,a[j]? = some b→∃ q d y,us[j]? = some q∧w.cell? (ad.add j)=some q∧f j=some d∧b=.d y∧CL d y
 | .d y=>∃ d,w.cell? (ad.add 0)=some u∧f 0=some d∧CL d y
 | _=>False
theorem zc9 {B:Nat→Prop} {rs:Rows} {i off:Nat} (hc:CellsAt w B S T v fun c=>zk rs i (off+c)) (h:(zdk P t rs i off).run call hp l=some (x,hp',l')) :
  hp'=hp∧∃ u,(Instr.loadAt t v).run P w=.ok u w∧(∀ hp m,valC w S T hp m u x)∧∃ ad,v=.pointer (some ad)∧LR w ad (fun c=>zk rs i (off+c)) u x:=by
 obtain ⟨ad,rfl,hq⟩:=hc.cell_eq
 clear hc
 unfold zdk at h
 split at h
 ·rename_i d hu ha
  obtain ⟨hl,h⟩:=zB h
  obtain ⟨a,h1,l1,hr,h⟩:=bind_some h
  obtain ⟨rfl,rfl⟩:=ze h
  obtain ⟨rfl,hlen,hcs⟩:=zgO hr
  refine ⟨rfl,?_⟩
  have hl:(zfC P 8 t).length=szOf P t:=Nat.eq_of_beq_eq_true hl
  have hex:∀ j:Nat,∃ u:Value,j < a.length→w.cell? (ad.add j)=some u∧∃ d y,a[j]? = some (.d y)∧RD w S T u y∧zk rs i (off+j)=some d∧CL d y:=by
   intro j
   by_cases hj:j < a.length
   ·obtain ⟨d',y,hd,hy,_,hR,hC⟩:=hcs j _ (List.getElem?_eq_getElem hj)
    obtain ⟨u,hu,hrd⟩:=hq j d' hd
    exact ⟨u,fun _=>⟨hu,d',y,by rw [List.getElem?_eq_getElem hj,hy],hR _ _ _ _ hrd,hd,hC⟩⟩
   ·exact ⟨undef,fun h=>absurd h hj⟩
  obtain ⟨g,hg⟩:=Classical.axiomOfChoice hex
  refine ⟨.agg ((List.range a.length).map g).toArray,zel hu ha ad _ (by simp [hlen,hl]) (fun j u hj=>?_),fun hp m=>⟨_,rfl,by simp,fun j b hb=>?_⟩,ad,rfl,_,rfl,by simp,fun j b hb=>?_⟩
  ·simp only [List.getElem?_map,Option.map_eq_some_iff,List.getElem?_eq_some_iff] at hj
   obtain ⟨k,⟨hk,rfl⟩,rfl⟩:=hj
   simp only [List.getElem_range,List.length_range] at hk ⊢
   exact (hg _ hk).1
  ·have hj:j < a.length:=(List.getElem?_eq_some_iff.1 hb).1
   obtain ⟨_,d',y,hy,hrd,_⟩:=hg j hj
   rw [hy] at hb
   injection hb with hb
   subst hb
   exact ⟨g j,by simp [hj],hrd⟩
  ·have hj:j < a.length:=(List.getElem?_eq_some_iff.1 hb).1
   obtain ⟨h1,d',y,hy,hrd,h2,h3⟩:=hg j hj
   rw [hy] at hb
   injection hb with hb
   subst hb
   exact ⟨g j,d',y,by simp [hj],h1,h2,rfl,h3⟩
 ·rename_i d k hu ha hk
  obtain ⟨rfl,d',y,hd,rfl,_,hR,hC⟩:=zhR h
  obtain ⟨u,hcu,hrd⟩:=hq 0 d' hd
  have h0:ad.add 0=ad:=by simp [Addr.add]
  rw [h0] at hcu
  exact ⟨rfl,u,zem hu ha ad hcu,fun _ _=>hR _ _ _ _ hrd,ad,rfl,d',by rw [h0];exact hcu,hd,hC⟩
 ·cases h
theorem ziM {R:Value→AV→Prop} {cs:List AV} {off:Nat} {ad:Addr} (hR:∀ u a,R u a→leafC w S T hp m u a) (hc:∀ c a,cs[off+c]? = some a→∃ u,w.cell? (ad.add c)=some u∧R u a) (h:(zhK P t cs off).run call hp l=some (x,hp',l')) :
  hp'=hp∧∃ u,(Instr.loadAt t (.pointer (some ad))).run P w=.ok u w∧valC w S T hp m u x:=by
 unfold zhK at h
 split at h
 ·rename_i d hu ha
  obtain ⟨hl,h⟩:=zB h
  obtain ⟨rfl,rfl⟩:=ze h
  refine ⟨rfl,?_⟩
  have hl:off+szOf P t≤cs.length:=Nat.le_of_ble_eq_true hl
  have hlen:((cs.drop off).take (szOf P t)).length=szOf P t:=by simp;omega
  generalize hxs:(cs.drop off).take (szOf P t)=xs at *
  have hcs:∀ (j:Nat) a,xs[j]? = some a→cs[off+j]? = some a:=by
   intro j a hj
   rw [← hxs] at hj
   simp only [List.getElem?_take,List.getElem?_drop] at hj
   split at hj
   ·exact hj
   ·cases hj
  have hex:∀ j:Nat,∃ u:Value,∀ a,xs[j]? = some a→w.cell? (ad.add j)=some u∧R u a:=by
   intro j
   by_cases hj:j < xs.length
   ·obtain ⟨u,hu,hr⟩:=hc j _ (hcs j _ (List.getElem?_eq_getElem hj))
    refine ⟨u,fun a ha=>?_⟩
    rw [List.getElem?_eq_getElem hj] at ha
    injection ha with ha
    subst ha
    exact ⟨hu,hr⟩
   ·exact ⟨undef,fun a ha=>absurd (List.getElem?_eq_some_iff.1 ha).1 hj⟩
  obtain ⟨g,hg⟩:=Classical.axiomOfChoice hex
  refine ⟨.agg ((List.range xs.length).map g).toArray,zel hu ha ad _ (by simp [hlen]) (fun j u hj=>?_),⟨_,rfl,by simp,fun j b hb=>?_⟩⟩
  ·simp only [List.getElem?_map,Option.map_eq_some_iff,List.getElem?_eq_some_iff] at hj
   obtain ⟨k,⟨hk,rfl⟩,rfl⟩:=hj
   simp only [List.getElem_range,List.length_range] at hk ⊢
   exact (hg _ _ (List.getElem?_eq_getElem hk)).1
  ·have hj:j < xs.length:=(List.getElem?_eq_some_iff.1 hb).1
   exact ⟨g j,by simp [hj],hR _ _ (hg j b hb).2⟩
 ·rename_i d hu ha
  obtain ⟨hx,rfl⟩:=zeg h
  obtain ⟨u,hcu,hr⟩:=hc 0 x hx
  have h0:ad.add 0=ad:=by simp [Addr.add]
  rw [h0] at hcu
  refine ⟨rfl,u,zem hu ha ad hcu,?_⟩
  have:=hR _ _ hr
  cases x<;>first | exact this | exact this.elim
 ·cases h
end
end Ovi
namespace Ovi
open Go Go.RowKit
def updM (m:MapM) (id:Nat) (b:Option Nat):MapM:=fun i=>if i=id then b else m i
theorem zH (m:MapM) (id:Nat) (b:Option Nat):updM m id b id=b:=by simp [updM]
theorem zP {m:MapM} {id i:Nat} {b:Option Nat} (h:i≠id):updM m id b i=m i:=by simp [updM,h]
theorem zr (h:Hp) (id:Nat) (b:Option Blk):updH h id b id=b:=by simp [updH]
theorem zA {h:Hp} {id i:Nat} {b:Option Blk} (hi:i≠id):updH h id b i=h i:=by
 have:Nat.beq i id=false:=by
  cases hb:Nat.beq i id with
  | false=>rfl
  | true=>exact absurd (Nat.eq_of_beq_eq_true hb) hi
 simp [updH,this]
section
variable {base:Nat} {w0 w:World} {S0 S T:Nat→Prop} {hp:Hp} {m:MapM}
theorem Inv.new (h:Inv base w0 w S0 S T hp m) {id:Nat} (hid:hp id=none) (c:Array Value) (e:TypeId) (blk:Blk) (hh:hot (some blk)=true)
  (hvar:∀ cs,blk=.var cs→Leaves (leafC w S T hp m) c cs)
  (hcl:∃ G',Cl base (w.alloc (.cells c e)) S T (updH hp id (some blk)) (updM m id (some w.heap.size)) G')
  (harr:∀ e' sz ver xs q,blk=.arr e' sz ver xs q→e'=e∧(∀ (i:Nat) (x:List D),xs[i]? = some x→x.length=sz)∧xs.length * sz≤c.size∧∀ i k x,zk xs i k=some x→x.isFn=false∧∃ v,c[i * sz+k]? = some v∧RD w S T v x) :
  Inv base w0 (w.alloc (.cells c e)) S0 S T (updH hp id (some blk)) (updM m id (some w.heap.size)) ∧
  ∀ v a,leafC w S T hp m v a→leafC (w.alloc (.cells c e)) S T (updH hp id (some blk)) (updM m id (some w.heap.size)) v a:=by
 have hst:∀ k,k < w.heap.size→(w.alloc (.cells c e)).heap[k]? = w.heap[k]? := fun k hk=>Below.heap_alloc w _ k hk
 have hS:Stab S w (w.alloc (.cells c e)):=fun k hk=>hst k (h.slt k hk)
 have hT:Stab T w (w.alloc (.cells c e)):=fun k hk=>hst k (h.tl hk)
 have hext:∀ v a,leafC w S T hp m v a→leafC (w.alloc (.cells c e)) S T (updH hp id (some blk)) (updM m id (some w.heap.size)) v a:=by
  intro v a ha
  refine leafC.same hS hT (fun _ h=>h) (fun i hi=>?_) ha
  have hne:i≠id:=fun e=>by rw [e,hid] at hi;cases hi
  refine ⟨zA hne,zP hne,fun b cur e' hho hm hb=>?_⟩
  rw [hst b (h.rng i b hho hm).2.1]
  exact hb
 have hne:∀ {i:Nat},i≠id→hot (updH hp id (some blk) i)=true→hot (hp i)=true:=fun hi hx=>by rwa [zA hi] at hx
 refine ⟨{ below:=h.below.alloc h.bsz _,bsz:=by simp;have:=h.bsz;omega,tlt:=h.tlt,s0:=h.s0,s1:=h.s1,s0lt:=h.s0lt,slt:=fun k hk=>by simp;have:=h.slt k hk;omega,rng:=?_,inj:=?_,var:=?_,arr:=?_,cl:=hcl },hext⟩
 ·intro i b hho hm
  by_cases hi:i=id
  ·subst hi
   rw [zH] at hm
   injection hm with hm
   subst hm
   exact ⟨h.bsz,by simp,fun hs=>by have:=h.slt _ hs;omega⟩
  ·rw [zP hi] at hm
   obtain ⟨h1,h2,h3⟩:=h.rng i b (hne hi hho) hm
   exact ⟨h1,by simp;omega,h3⟩
 ·intro i j b hi hj hmi hmj
  by_cases h1:i=id
  ·by_cases h2:j=id
   ·exact h1.trans h2.symm
   ·rw [zP h2] at hmj
    have:=(h.rng j b (hne h2 hj) hmj).2.1
    subst h1
    rw [zH] at hmi
    injection hmi with hmi
    omega
  ·by_cases h2:j=id
   ·rw [zP h1] at hmi
    have:=(h.rng i b (hne h1 hi) hmi).2.1
    subst h2
    rw [zH] at hmj
    injection hmj with hmj
    omega
   ·rw [zP h1] at hmi
    rw [zP h2] at hmj
    exact h.inj i j b (hne h1 hi) (hne h2 hj) hmi hmj
 ·intro i cs hcs
  by_cases hi:i=id
  ·subst hi
   rw [zr] at hcs
   injection hcs with hcs
   exact ⟨w.heap.size,c,e,zH _ _ _,heap_alloc_new w _,(hvar cs hcs).mono hext⟩
  ·rw [zA hi] at hcs
   obtain ⟨b,c',e',hm,hb,hl⟩:=h.var i cs hcs
   refine ⟨b,c',e',(zP hi).trans hm,?_,hl.mono hext⟩
   rw [hst b (h.rng i b (by rw [hcs];rfl) hm).2.1]
   exact hb
 ·intro i e' sz ver xs q hx
  by_cases hi:i=id
  ·subst hi
   rw [zr] at hx
   injection hx with hx
   obtain ⟨rfl,h1,h2,h3⟩:=harr e' sz ver xs q hx
   refine ⟨h1,?_⟩
   rw [zH]
   exact ⟨c,heap_alloc_new w _,h2,fun i k x hk=>⟨(h3 i k x hk).1,let ⟨v,hv,hr⟩:=(h3 i k x hk).2;⟨v,hv,hr.mono hS hT (fun _ h=>h) fun _ h=>h⟩⟩⟩
  ·rw [zA hi] at hx
   obtain ⟨h1,h2⟩:=h.arr i e' sz ver xs q hx
   refine ⟨h1,?_⟩
   rw [zP hi]
   cases hm:m i with
   | none=>rw [hm] at h2;exact h2
   | some b =>
    rw [hm] at h2
    obtain ⟨cur,hb,hl,hc⟩:=h2
    refine ⟨cur,?_,hl,fun i k x hk=>⟨(hc i k x hk).1,let ⟨v,hv,hr⟩:=(hc i k x hk).2;⟨v,hv,hr.mono hS hT (fun _ h=>h) fun _ h=>h⟩⟩⟩
    rw [hst b (h.rng i b (by rw [hx];rfl) hm).2.1]
    exact hb
theorem Inv.world (h:Inv base w0 w S0 S T hp m) {w':World} (hb:Below w.heap.size w w') :
  Inv base w0 w' S0 S T hp m∧∀ v a,leafC w S T hp m v a→leafC w' S T hp m v a:=by
 have hS:Stab S w w':=fun k hk=>hb.block k (h.slt k hk)
 have hT:Stab T w w':=fun k hk=>hb.block k (h.tl hk)
 have hext:∀ v a,leafC w S T hp m v a→leafC w' S T hp m v a:=fun v a ha =>
  leafC.same hS hT (fun _ h=>h) (fun i hi=>⟨rfl,rfl,fun b cur e hho hm hc=>(hb.block b (h.rng i b hho hm).2.1).trans hc⟩) ha
 refine ⟨{ below:=h.below.trans (hb.mono h.bsz),bsz:=Nat.le_trans h.bsz hb.size,tlt:=h.tlt,s0:=h.s0,s1:=h.s1,s0lt:=h.s0lt,slt:=fun k hk=>Nat.lt_of_lt_of_le (h.slt k hk) hb.size,rng:=fun i b hho hm=>?_,inj:=h.inj,var:=fun i cs hcs=>?_,arr:=fun i e sz ver xs q hx=>?_,cl:=?_ },hext⟩
 ·obtain ⟨h1,h2,h3⟩:=h.rng i b hho hm
  exact ⟨h1,Nat.lt_of_lt_of_le h2 hb.size,h3⟩
 ·obtain ⟨b,c,e,hm,hc,hl⟩:=h.var i cs hcs
  exact ⟨b,c,e,hm,(hb.block b (h.rng i b (by rw [hcs];rfl) hm).2.1).trans hc,hl.mono hext⟩
 ·obtain ⟨h1,h2⟩:=h.arr i e sz ver xs q hx
  refine ⟨h1,?_⟩
  cases hm:m i with
  | none=>rw [hm] at h2;exact h2
  | some b =>
   rw [hm] at h2
   obtain ⟨cur,hc,hl,hq⟩:=h2
   exact ⟨cur,(hb.block b (h.rng i b (by rw [hx];rfl) hm).2.1).trans hc,hl,fun i k x hk=>⟨(hq i k x hk).1,let ⟨v,hv,hr⟩:=(hq i k x hk).2;⟨v,hv,hr.mono hS hT (fun _ h=>h) fun _ h=>h⟩⟩⟩
 ·obtain ⟨G,hG⟩:=h.cl
  refine ⟨G,hG.mono hS (fun _ h=>h) fun id e sz ver xs d lo cv b cur h1 h2 h3 h4=>⟨ver,d,lo,cv,h1,Nat.le_refl _,Nat.le_refl _,h3,?_⟩⟩
  rw [← hb.block b (h.rng id b (by rw [h1];rfl) h3).2.1]
  exact h4
theorem Cl.newNil {G:Nat→Nat→Nat→Nat→Prop} (hG:Cl base w S T hp m G) (id:Nat) (blk:Blk):Cl base w S T (updH hp id (some blk)) (updM m id none) G :=
 hG.mono (Stab.refl _ _) (fun _ h=>h) fun i e' sz' ver' xs' d lo cv b cur h1 h2 h3 h4=>by
  have hi:i≠id:=fun e=>by rw [e,zH] at h3;cases h3
  rw [zA hi] at h1
  rw [zP hi] at h3
  exact ⟨ver',d,lo,cv,h1,Nat.le_refl _,Nat.le_refl _,h3,h4⟩
theorem Inv.newNil (h:Inv base w0 w S0 S T hp m) {id:Nat} (hid:hp id=none) (e:TypeId) (sz ver:Nat) (q:Cm) :
  Inv base w0 w S0 S T (updH hp id (some (.arr e sz ver [] q))) (updM m id none) ∧
  ∀ v a,leafC w S T hp m v a→leafC w S T (updH hp id (some (.arr e sz ver [] q))) (updM m id none) v a:=by
 have hext:∀ v a,leafC w S T hp m v a→leafC w S T (updH hp id (some (.arr e sz ver [] q))) (updM m id none) v a:=by
  intro v a ha
  refine leafC.same (Stab.refl _ _) (Stab.refl _ _) (fun _ h=>h) (fun i hi=>?_) ha
  have hne:i≠id:=fun e=>by rw [e,hid] at hi;cases hi
  exact ⟨zA hne,zP hne,fun b cur e' hho hm hb=>hb⟩
 have hmne:∀ {i b:Nat},updM m id none i=some b→i≠id:=fun hm e=>by rw [e,zH] at hm;cases hm
 refine ⟨{ below:=h.below,bsz:=h.bsz,tlt:=h.tlt,s0:=h.s0,s1:=h.s1,s0lt:=h.s0lt,slt:=h.slt,rng:=fun i b hho hm=>?_,inj:=fun i j b hi hj hmi hmj=>?_,var:=fun i cs hcs=>?_,arr:=fun i e' sz' ver' xs q' hx=>?_,cl:=?_ },hext⟩
 ·have hi:=hmne hm
  rw [zP hi] at hm
  rw [zA hi] at hho
  exact h.rng i b hho hm
 ·have h1:=hmne hmi
  have h2:=hmne hmj
  rw [zP h1] at hmi
  rw [zP h2] at hmj
  rw [zA h1] at hi
  rw [zA h2] at hj
  exact h.inj i j b hi hj hmi hmj
 ·have hi:i≠id:=fun e=>by rw [e,zr] at hcs;injection hcs with hcs;cases hcs
  rw [zA hi] at hcs
  obtain ⟨b,c,e',hm,hc,hl⟩:=h.var i cs hcs
  exact ⟨b,c,e',(zP hi).trans hm,hc,hl.mono hext⟩
 ·by_cases hi:i=id
  ·subst hi
   rw [zr] at hx
   injection hx with hx
   injection hx with h1 h2 h3 h4 h5
   subst h4
   refine ⟨fun i x hx=>by simp at hx,?_⟩
   rw [zH]
  ·rw [zA hi] at hx
   obtain ⟨h1,h2⟩:=h.arr i e' sz' ver' xs q' hx
   exact ⟨h1,by rw [zP hi];exact h2⟩
 ·obtain ⟨G,hG⟩:=h.cl
  refine ⟨G,hG.mono (Stab.refl _ _) (fun _ h=>h) fun i e' sz' ver' xs d lo cv b cur h1 h2 h3 h4=>?_⟩
  have hi:=hmne h3
  rw [zA hi] at h1
  rw [zP hi] at h3
  exact ⟨ver',d,lo,cv,h1,Nat.le_refl _,Nat.le_refl _,h3,h4⟩
end
end Ovi
namespace Ovi
open Go Go.RowKit
def zag (w:World) (b:Nat) (c:Array Value) (e:TypeId):World:={ w with heap:=w.heap.setIfInBounds b (.cells c e (0,0)) }
theorem zaH {w:World} {b:Nat} {c:Array Value} {e:TypeId} (hb:b < w.heap.size):(zag w b c e).heap[b]? = some (.cells c e (0,0)):=by simp [zag,hb]
theorem zaI {w:World} {b k:Nat} {c:Array Value} {e:TypeId} (h:k≠b):(zag w b c e).heap[k]? = w.heap[k]? := by
 simp only [zag]
 rw [Array.getElem?_setIfInBounds_ne (Ne.symm h)]
theorem zbb {w:World} {b:Nat} {c:Array Value} {e:TypeId}:(zag w b c e).heap.size=w.heap.size:=by simp [zag]
theorem z6 {w:World} {b:Nat} {o:Obj} (h:w.heap[b]? = some o):b < w.heap.size:=(Array.getElem?_eq_some_iff.1 h).1
section
variable {base:Nat} {w0 w:World} {S0 S T:Nat→Prop} {hp:Hp} {m:MapM}
theorem Inv.write (h:Inv base w0 w S0 S T hp m) {id b:Nat} {c c':Array Value} {e:TypeId} {blk blk':Blk} (hid:hp id=some blk) (hh:hot (some blk)=true) (hh':hot (some blk')=true)
  (hm:m id=some b) (hb:w.heap[b]? = some (.cells c e (0,0))) (hsz:c'.size=c.size)
  (hkind:(∃ cs cs',blk=.var cs∧blk'=.var cs'∧Leaves (leafC w S T hp m) c' cs') ∨
   ∃ sz ver xs q ver' xs' q',blk=.arr e sz ver xs q∧blk'=.arr e sz ver' xs' q'∧(ver'=ver→0 < q'.1→0 < q.1∧q.2.2 < q'.2.2)∧ver≤ver'∧(ver'=ver→xs'.length=xs.length)∧(∀ (i:Nat) (x:List D),xs'[i]? = some x→x.length=sz)∧xs'.length * sz≤c'.size ∧
    ∀ i k x,zk xs' i k=some x→x.isFn=false∧∃ v,c'[i * sz+k]? = some v∧RD w S T v x)
  (hcl:∃ G',Cl base (zag w b c' e) S T (updH hp id (some blk')) m G') :
  Inv base w0 (zag w b c' e) S0 S T (updH hp id (some blk')) m ∧
  ∀ v a,leafC w S T hp m v a→leafC (zag w b c' e) S T (updH hp id (some blk')) m v a:=by
 obtain ⟨hb1,hb2,hb3⟩:=h.rng id b (by rw [hid];exact hh) hm
 have hst:∀ k,k≠b→(zag w b c' e).heap[k]? = w.heap[k]? := fun k hk=>zaI hk
 have hS:Stab S w (zag w b c' e):=fun k hk=>hst k (fun e=>hb3 (e▸hk))
 have hT:Stab T w (zag w b c' e):=fun k hk=>hst k (fun e'=>h.hotT (id:=id) (by rw [hid];exact hh) hm (e'▸hk))
 have hshape:∀ i b' cur e',hot (hp i)=true→m i=some b'→w.heap[b']? = some (.cells cur e' (0,0))→∃ cur',(zag w b c' e).heap[b']? = some (.cells cur' e' (0,0))∧cur'.size=cur.size:=by
  intro i b' cur e' hho hmi hc
  by_cases hbb:b'=b
  ·subst hbb
   rw [hb] at hc
   injection hc with hc
   injection hc with h1 h2 h3
   subst h1 h2
   exact ⟨c',zaH hb2,hsz⟩
  ·exact ⟨cur,(hst b' hbb).trans hc,rfl⟩
 have hsame:∀ i,i≠id→Same w (zag w b c' e) hp (updH hp id (some blk')) m m i:=fun i hi =>
  ⟨zA hi,rfl,fun b' cur e' ho hm' hc=>(hst b' fun he=>hi (h.inj i id b ho (by rw [hid];exact hh) (he▸hm') hm)).trans hc⟩
 have hext:∀ v a,leafC w S T hp m v a→leafC (zag w b c' e) S T (updH hp id (some blk')) m v a:=by
  intro v a ha
  refine leafC.mono hS hT (fun _ h=>h) (fun i hx=>?_) (fun i ver v hx=>?_) (fun i ver cv j v s x hx=>?_) (fun i ver j off v hx=>?_) ha
  ·by_cases hi:i=id
   ·subst hi
    refine ⟨?_,rfl⟩
    obtain ⟨cs,hx⟩:=hx
    rw [hid] at hx
    injection hx with hx
    rcases hkind with ⟨cs1,cs',h1,h2,_⟩ | ⟨sz,ver,xs,q,ver',xs',q',h1,_⟩
    ·exact ⟨cs',by rw [zr,h2]⟩
    ·rw [h1] at hx;cases hx
   ·exact ⟨by rw [zA hi];exact hx,rfl⟩
  ·by_cases hi:i=id
   ·subst hi
    simp only [leafC,hid] at hx
    simp only [leafC,zr]
    refine ⟨hx.1,?_⟩
    replace hx:=hx.2
    rcases hkind with ⟨cs1,cs',h1,h2,_⟩ | ⟨sz,ver0,xs,q,ver',xs',q',h1,h2,hq,h3,h4,_⟩
    ·subst h1;exact hx.elim
    ·subst h1 h2
     refine ⟨Nat.le_trans hx.1 h3,fun hv=>?_⟩
     have hv0:ver0=ver:=by have:=hx.1;omega
     have:=(hx.2 hv0).mono (w':=zag w b c' e) fun b' cur e' hm' hc=>hshape i b' cur e' (by rw [hid];rfl) hm' hc
     rwa [h4 (by omega)]
   ·exact zdE hS hT (fun _ h=>h) (fun _=>hsame i hi) hx
  ·by_cases hi:i=id
   ·subst hi
    simp only [hid] at hx
    simp only [zr]
    rcases hkind with ⟨cs1,cs',h1,h2,_⟩ | ⟨sz,ver0,xs,q,ver',xs',q',h1,h2,hq,h3,h4,_⟩
    ·subst h1;exact hx.elim
    ·subst h1 h2
     refine ⟨Nat.le_trans hx.1 h3,fun hv hd=>?_⟩
     have hv0:ver0=ver:=by have:=hx.1;omega
     obtain ⟨k1,k2⟩:=hq (by omega) hd
     have k3:=(hx.2 hv0 k1).1
     exact ⟨by omega,fun he=>by omega⟩
   ·exact zeh (fun _=>hsame i hi) hx
  ·by_cases hi:i=id
   ·subst hi
    simp only [leafC,hid] at hx
    simp only [leafC,zr]
    refine ⟨hx.1,?_⟩
    replace hx:=hx.2
    rcases hkind with ⟨cs1,cs',h1,h2,_⟩ | ⟨sz,ver0,xs,q,ver',xs',q',h1,h2,hq,h3,h4,_⟩
    ·subst h1;exact hx.elim
    ·subst h1 h2
     refine ⟨Nat.le_trans hx.1 h3,fun hv=>?_⟩
     have hv0:ver0=ver:=by have:=hx.1;omega
     rw [h4 (by omega)]
     exact hx.2 hv0
   ·exact zd9 hS hT (fun _ h=>h) (fun _=>hsame i hi) hx
 have hho:∀ {i:Nat},hot (updH hp id (some blk') i)=true→hot (hp i)=true:=by
  intro i hx
  by_cases hi:i=id
  ·subst hi;rw [hid];exact hh
  ·rwa [zA hi] at hx
 refine ⟨{ below:=h.below.trans ⟨rfl,rfl,rfl,by rw [zbb];exact Nat.le_refl _,fun k hk=>hst k (by omega)⟩,bsz:=by rw [zbb];exact h.bsz,tlt:=h.tlt,s0:=h.s0,s1:=h.s1,s0lt:=h.s0lt,slt:=fun k hk=>by rw [zbb];exact h.slt k hk,rng:=fun i b' ho hm'=>by rw [zbb];exact h.rng i b' (hho ho) hm',inj:=fun i j b' hi hj h1 h2=>h.inj i j b' (hho hi) (hho hj) h1 h2,var:=?_,arr:=?_,cl:=hcl },hext⟩
 ·intro i cs hcs
  by_cases hi:i=id
  ·subst hi
   rw [zr] at hcs
   injection hcs with hcs
   rcases hkind with ⟨cs1,cs',h1,h2,h3⟩ | ⟨sz,ver0,xs,q,ver',xs',q',h1,h2,_⟩
   ·rw [h2] at hcs
    injection hcs with hcs
    subst hcs
    exact ⟨b,c',e,hm,zaH hb2,h3.mono hext⟩
   ·rw [h2] at hcs;cases hcs
  ·rw [zA hi] at hcs
   obtain ⟨b',c1,e1,hm',hb',hl⟩:=h.var i cs hcs
   have hne:b'≠b:=fun he=>hi (h.inj i id b (by rw [hcs];rfl) (by rw [hid];exact hh) (he▸hm') hm)
   exact ⟨b',c1,e1,hm',(hst b' hne).trans hb',hl.mono hext⟩
 ·intro i e1 sz1 ver1 xs1 q1 hx
  by_cases hi:i=id
  ·subst hi
   rw [zr] at hx
   injection hx with hx
   rcases hkind with ⟨cs1,cs',h1,h2,h3⟩ | ⟨sz,ver0,xs,q,ver',xs',q',h1,h2,hq,h3,h4,h5,h6,h7⟩
   ·rw [h2] at hx;cases hx
   ·rw [h2] at hx
    injection hx with e1 e2 e3 e4 e5
    subst e1 e2 e3 e4
    refine ⟨h5,?_⟩
    rw [hm]
    exact ⟨c',zaH hb2,h6,fun i k x hk=>⟨(h7 i k x hk).1,let ⟨v,hv,hr⟩:=(h7 i k x hk).2;⟨v,hv,hr.mono hS hT (fun _ h=>h) fun _ h=>h⟩⟩⟩
  ·rw [zA hi] at hx
   obtain ⟨h1,h2⟩:=h.arr i e1 sz1 ver1 xs1 q1 hx
   refine ⟨h1,?_⟩
   cases hm':m i with
   | none=>rw [hm'] at h2;exact h2
   | some b' =>
    rw [hm'] at h2
    obtain ⟨cur,hc,hl,hq⟩:=h2
    have hne:b'≠b:=fun he=>hi (h.inj i id b (by rw [hx];rfl) (by rw [hid];exact hh) (he▸hm') hm)
    exact ⟨cur,(hst b' hne).trans hc,hl,fun i k x hk=>⟨(hq i k x hk).1,let ⟨v,hv,hr⟩:=(hq i k x hk).2;⟨v,hv,hr.mono hS hT (fun _ h=>h) fun _ h=>h⟩⟩⟩
theorem Cl.write {G:Nat→Nat→Nat→Nat→Prop} (hI:Inv base w0 w S0 S T hp m) (h:Cl base w S T hp m G) {id b:Nat} {c':Array Value} {e:TypeId} {blk blk':Blk} (hid:hp id=some blk) (hh:hot (some blk)=true) (hm:m id=some b)
  {G':Nat→Nat→Nat→Nat→Prop} (gs:∀ i j c k,G' i j c k→S k∧base≤k∧¬ T k) (gd:∀ i j c i' j' c' k,G' i j c k→G' i' j' c' k→i=i'∧j=j'∧c=c') (go:∀ i,i≠id→∀ j c k,G' i j c k=G i j c k)
  (gn:∀ e1 sz ver xs d lo cv,blk'=.arr e1 sz ver xs (d,lo,cv)→0 < d→∀ j k x,lo≤j→zk xs j k=some x→∃ u,c'[j * sz+k]? = some u∧Fo d w u x (G' id j k)) :
  Cl base (zag w b c' e) S T (updH hp id (some blk')) m G' where
 gs:=gs
 gd:=gd
 gf:=fun i e1 sz ver xs d lo cv b1 cur h1 h2 h3 h4 j k x h5 h6=>by
  have hb:=hI.rng id b (by rw [hid];exact hh) hm
  have hst:∀ (n:Nat) (v:Value) (x:D) (B:Nat→Prop),(∀ k,B k→S k)→Fo n w v x B→Fo n (zag w b c' e) v x B:=fun n v x B hB hf =>
   Fo.stab (fun k hk=>zaI fun he=>hb.2.2 (he▸hB k hk)) (fun _ h=>h) hf
  by_cases hi:i=id
  ·subst hi
   rw [zr] at h1
   injection h1 with h1
   rw [hm] at h3
   injection h3 with h3
   subst h3
   rw [zaH hb.2.1] at h4
   injection h4 with h4
   injection h4 with h4
   subst h4
   obtain ⟨u,hu,hf⟩:=gn e1 sz ver xs d lo cv h1 h2 j k x h5 h6
   exact ⟨u,hu,hst _ _ _ _ (fun k hk=>(gs _ _ _ k hk).1) hf⟩
  ·rw [zA hi] at h1
   have hne:b1≠b:=fun he=>hi (hI.inj i id b (by rw [h1];rfl) (by rw [hid];exact hh) (he▸h3) hm)
   rw [zaI hne] at h4
   obtain ⟨u,hu,hf⟩:=h.gf i e1 sz ver xs d lo cv b1 cur h1 h2 h3 h4 j k x h5 h6
   refine ⟨u,hu,hst _ _ _ _ (fun k hk=>(gs _ _ _ k hk).1) (Fo.stab (fun _ _=>rfl) (fun k hk=>?_) hf)⟩
   rw [go i hi]
   exact hk
theorem Cl.writeNo {G:Nat→Nat→Nat→Nat→Prop} (hI:Inv base w0 w S0 S T hp m) (h:Cl base w S T hp m G) {id b:Nat} {c':Array Value} {e:TypeId} {blk blk':Blk} (hid:hp id=some blk) (hh:hot (some blk)=true) (hm:m id=some b)
  (hn:∀ e1 sz ver xs d lo cv,blk'=.arr e1 sz ver xs (d,lo,cv)→d=0):Cl base (zag w b c' e) S T (updH hp id (some blk')) m G :=
 h.write hI hid hh hm h.gs h.gd (fun _ _ _ _ _=>rfl) (fun e1 sz ver xs d lo cv h1 h2=>by have:=hn _ _ _ _ _ _ _ h1;omega)
theorem Inv.setQ' (h:Inv base w0 w S0 S T hp m) {id:Nat} {e sz ver:Nat} {xs:Rows} {q q':Cm} (hid:hp id=some (.arr e sz ver xs q)) (hq:0 < q'.1→0 < q.1∧q.2.2≤q'.2.2)
  (hcl:∃ G',Cl base w S T (updH hp id (some (.arr e sz ver xs q'))) m G') :
  Inv base w0 w S0 S T (updH hp id (some (.arr e sz ver xs q'))) m∧∀ v a,leafC w S T hp m v a→leafC w S T (updH hp id (some (.arr e sz ver xs q'))) m v a:=by
 have hsame:∀ i,i≠id→Same w w hp (updH hp id (some (.arr e sz ver xs q'))) m m i:=fun i hi=>⟨zA hi,rfl,fun b' cur e' ho hm' hc=>hc⟩
 have hext:∀ v a,leafC w S T hp m v a→leafC w S T (updH hp id (some (.arr e sz ver xs q'))) m v a:=by
  intro v a ha
  refine leafC.mono (Stab.refl _ _) (Stab.refl _ _) (fun _ h=>h) (fun i hx=>?_) (fun i ver v hx=>?_) (fun i ver cv j v s x hx=>?_) (fun i ver j off v hx=>?_) ha
  ·have hi:i≠id:=fun e=>by obtain ⟨cs,hx⟩:=hx;rw [e,hid] at hx;cases hx
   exact ⟨by rw [zA hi];exact hx,rfl⟩
  ·by_cases hi:i=id
   ·subst hi
    simp only [leafC,hid] at hx
    simp only [leafC,zr]
    exact hx
   ·exact zdE (Stab.refl _ _) (Stab.refl _ _) (fun _ h=>h) (fun _=>hsame i hi) hx
  ·by_cases hi:i=id
   ·subst hi
    simp only [hid] at hx
    simp only [zr]
    refine ⟨hx.1,fun hv hd=>?_⟩
    obtain ⟨k1,k2⟩:=hq hd
    obtain ⟨k3,k4⟩:=hx.2 hv k1
    exact ⟨by omega,fun he=>k4 (by omega)⟩
   ·exact zeh (fun _=>hsame i hi) hx
  ·by_cases hi:i=id
   ·subst hi
    simp only [leafC,hid] at hx
    simp only [leafC,zr]
    exact hx
   ·exact zd9 (Stab.refl _ _) (Stab.refl _ _) (fun _ h=>h) (fun _=>hsame i hi) hx
 have hho:∀ {i:Nat},hot (updH hp id (some (.arr e sz ver xs q')) i)=true→hot (hp i)=true:=by
  intro i hx
  by_cases hi:i=id
  ·subst hi;rw [hid];rfl
  ·rwa [zA hi] at hx
 refine ⟨{ below:=h.below,bsz:=h.bsz,tlt:=h.tlt,s0:=h.s0,s1:=h.s1,s0lt:=h.s0lt,slt:=h.slt,rng:=fun i b' ho hm'=>h.rng i b' (hho ho) hm',inj:=fun i j b' hi hj h1 h2=>h.inj i j b' (hho hi) (hho hj) h1 h2,var:=fun i cs hcs=>?_,arr:=fun i e1 sz1 ver1 xs1 q1 hx=>?_,cl:=hcl },hext⟩
 ·have hi:i≠id:=fun e=>by rw [e,zr] at hcs;cases hcs
  rw [zA hi] at hcs
  obtain ⟨b,c,e',hm,hc,hl⟩:=h.var i cs hcs
  exact ⟨b,c,e',hm,hc,hl.mono hext⟩
 ·by_cases hi:i=id
  ·subst hi
   rw [zr] at hx
   cases hx
   exact h.arr i e sz ver xs q hid
  ·rw [zA hi] at hx
   exact h.arr i e1 sz1 ver1 xs1 q1 hx
theorem Inv.setQ (h:Inv base w0 w S0 S T hp m) {id:Nat} {e sz ver:Nat} {xs:Rows} {q q':Cm} (hid:hp id=some (.arr e sz ver xs q)) (hq:0 < q'.1→0 < q.1∧q'.2.2=q.2.2)
  (hcl:∃ G',Cl base w S T (updH hp id (some (.arr e sz ver xs q'))) m G') :
  Inv base w0 w S0 S T (updH hp id (some (.arr e sz ver xs q'))) m∧∀ v a,leafC w S T hp m v a→leafC w S T (updH hp id (some (.arr e sz ver xs q'))) m v a :=
 h.setQ' hid (fun hd=>⟨(hq hd).1,Nat.le_of_eq (hq hd).2.symm⟩) hcl
end
end Ovi
namespace Ovi
open Go Go.RowKit
section
variable {base:Nat} {w0 w:World} {S0 S T:Nat→Prop} {hp:Hp} {m:MapM}
theorem Inv.own_rd (h:Inv base w0 w S0 S T hp m) {id:Nat} {e sz ver:Nat} {xs:Rows} {q:Cm} (hid:hp id=some (.arr e sz ver xs q)) {v:Value} (ho:OwnC w (m id) e sz v xs.length)
  {S':Nat→Prop} (hS:∀ k,S k→S' k) (hb:∀ b,m id=some b→S' b):RD w S' T v (.list sz xs):=by
 obtain ⟨h1,h2⟩:=h.arr id e sz ver xs q hid
 cases hm:m id with
 | none =>
  rw [hm] at h2 ho
  subst h2
  obtain ⟨_,A,rfl⟩:=ho
  exact .list A 0 sz [] (fun _ _=>undef) (by simp) h1 (fun i c x hx=>by simp [zk] at hx) (fun i c x hx=>by simp [zk] at hx) (fun i c x hx=>by simp [zk] at hx)
 | some b =>
  rw [hm] at h2 ho
  obtain ⟨cap,cur,rfl,hc,h3,h4,h5⟩:=ho
  obtain ⟨cur',hc',h6,h7⟩:=h2
  rw [hc] at hc'
  injection hc' with hc'
  injection hc' with hc'
  subst hc'
  have hex:∀ p:Nat × Nat,∃ u:Value,∀ x,zk xs p.1 p.2=some x→cur[p.1 * sz+p.2]? = some u∧RD w S T u x:=by
   rintro ⟨i,c⟩
   cases hx:zk xs i c with
   | none=>exact ⟨undef,fun x hx=>by cases hx⟩
   | some x =>
    obtain ⟨_,u,hu,hr⟩:=h7 i c x hx
    exact ⟨u,fun y hy=>by injection hy with hy;subst hy;exact ⟨hu,hr⟩⟩
  obtain ⟨g,hg⟩:=Classical.axiomOfChoice hex
  refine .list _ cap sz xs (fun i c=>g (i,c)) h3 h1 (fun i c x hx=>⟨_,rfl,hb b hm,?_⟩) (fun i c x hx=>(hg (i,c) x hx).2.mono (Stab.refl _ _) (Stab.refl _ _) hS fun _ h=>h) (fun i c x hx=>(h7 i c x hx).1)
  rw [add_at]
  simp only [World.cell?, hc,Nat.zero_add]
  exact (hg (i,c) x hx).1
theorem Inv.freeze (h:Inv base w0 w S0 S T hp m) {id:Nat} {e sz ver:Nat} {xs:Rows} {q:Cm} (hid:hp id=some (.arr e sz ver xs q)) :
  Inv base w0 w S0 (fun k=>S k∨m id=some k) T (updH hp id (some (.frz sz ver xs))) m ∧
  ∀ v a,leafC w S T hp m v a→leafC w (fun k=>S k∨m id=some k) T (updH hp id (some (.frz sz ver xs))) m v a:=by
 have hS:∀ k,S k→S k∨m id=some k:=fun k hk=>.inl hk
 have hhot:hot (hp id)=true:=by rw [hid];rfl
 have hext:∀ v a,leafC w S T hp m v a→leafC w (fun k=>S k∨m id=some k) T (updH hp id (some (.frz sz ver xs))) m v a:=by
  intro v a ha
  refine leafC.mono (Stab.refl _ _) (Stab.refl _ _) hS (fun i hx=>?_) (fun i ver v hx=>?_) (fun i ver cv j v s x hx=>?_) (fun i ver j off v hx=>?_) ha
  ·have hi:i≠id:=fun e=>by obtain ⟨cs,hx⟩:=hx;rw [e,hid] at hx;cases hx
   exact ⟨by rw [zA hi];exact hx,rfl⟩
  ·by_cases hi:i=id
   ·subst hi
    simp only [leafC,hid] at hx
    simp only [leafC,zr]
    refine ⟨hx.1,?_⟩
    replace hx:=hx.2
    exact fun hv=>h.own_rd hid (hx.2 hv) hS fun b hb=>.inr hb
   ·exact zdE (Stab.refl _ _) (Stab.refl _ _) hS (fun _=>⟨zA hi,rfl,fun b' cur e' ho hm' hc=>hc⟩) hx
  ·by_cases hi:i=id
   ·subst hi
    simp only [zr]
    exact True.intro
   ·exact zeh (fun _=>⟨zA hi,rfl,fun b' cur e' ho hm' hc=>hc⟩) hx
  ·by_cases hi:i=id
   ·subst hi
    simp only [leafC,hid] at hx
    simp only [leafC,zr]
    refine ⟨hx.1,?_⟩
    replace hx:=hx.2
    intro hv
    obtain ⟨hj,b,hm,rfl⟩:=hx.2 hv
    refine ⟨_,rfl,fun c x hc=>⟨.inr hm,?_⟩⟩
    obtain ⟨_,h2⟩:=h.arr i e sz _ xs q hid
    rw [hm] at h2
    obtain ⟨cur,hcur,_,hq⟩:=h2
    obtain ⟨_,u,hu,hr⟩:=hq j (off+c) x hc
    refine ⟨u,?_,hr.mono (Stab.refl _ _) (Stab.refl _ _) hS fun _ h=>h⟩
    rw [add_at]
    simp only [World.cell?, hcur]
    rw [Nat.add_assoc]
    exact hu
   ·exact zd9 (Stab.refl _ _) (Stab.refl _ _) hS (fun _=>⟨zA hi,rfl,fun b' cur e' ho hm' hc=>hc⟩) hx
 have hne:∀ {i:Nat},hot (updH hp id (some (.frz sz ver xs)) i)=true→i≠id∧hot (hp i)=true:=by
  intro i hx
  by_cases hi:i=id
  ·subst hi;rw [zr] at hx;cases hx
  ·rw [zA hi] at hx;exact ⟨hi,hx⟩
 refine ⟨{ below:=h.below,bsz:=h.bsz,tlt:=fun k hk=>(h.tlt k hk).imp (fun h=>h) .inl,s0:=fun k hk=>.inl (h.s0 k hk),s1:=fun k hk=>?_,s0lt:=h.s0lt,slt:=fun k hk=>?_,rng:=fun i b hho hm=>?_,inj:=fun i j b hi hj=>h.inj i j b (hne hi).2 (hne hj).2,var:=fun i cs hcs=>?_,arr:=fun i e' sz' ver' xs' q' hx=>?_,cl:=?_ },hext⟩
 ·rcases hk with hk | hk
  ·exact h.s1 k hk
  ·exact .inr (h.rng id k hhot hk).1
 ·rcases hk with hk | hk
  ·exact h.slt k hk
  ·exact (h.rng id k hhot hk).2.1
 ·obtain ⟨hi,ho⟩:=hne hho
  obtain ⟨h1,h2,h3⟩:=h.rng i b ho hm
  refine ⟨h1,h2,fun hk=>?_⟩
  rcases hk with hk | hk
  ·exact h3 hk
  ·exact hi (h.inj i id b ho hhot hm hk)
 ·have hi:i≠id:=fun e=>by rw [e,zr] at hcs;cases hcs
  rw [zA hi] at hcs
  obtain ⟨b,c,e',hm,hc,hl⟩:=h.var i cs hcs
  exact ⟨b,c,e',hm,hc,hl.mono hext⟩
 ·have hi:i≠id:=fun e=>by rw [e,zr] at hx;cases hx
  rw [zA hi] at hx
  obtain ⟨h1,h2⟩:=h.arr i e' sz' ver' xs' q' hx
  refine ⟨h1,?_⟩
  cases hm:m i with
  | none=>rw [hm] at h2;exact h2
  | some b =>
   rw [hm] at h2
   obtain ⟨cur,hc,hl,hq⟩:=h2
   exact ⟨cur,hc,hl,fun i k x hk=>⟨(hq i k x hk).1,let ⟨v,hv,hr⟩:=(hq i k x hk).2;⟨v,hv,hr.mono (Stab.refl _ _) (Stab.refl _ _) hS fun _ h=>h⟩⟩⟩
 ·obtain ⟨G,hG⟩:=h.cl
  refine ⟨G,hG.mono (Stab.refl _ _) hS fun i e' sz' ver' xs' d lo cv b cur h1 h2 h3 h4=>?_⟩
  have hi:i≠id:=fun e=>by rw [e,zr] at h1;cases h1
  rw [zA hi] at h1
  exact ⟨ver',d,lo,cv,h1,Nat.le_refl _,Nat.le_refl _,h3,h4⟩
theorem Inv.regrow (h:Inv base w0 w S0 S T hp m) {id:Nat} {e sz:Nat} {w':World} {row mo':Option Nat} {ver':Nat} {xs':Rows} {q':Cm}
  (hid:hp id=none∧row=none∨∃ ver xs q,hp id=some (.arr e sz ver xs q)∧ver < ver'∧row=m id)
  (hcl:∃ G',Cl base w' S T (updH hp id (some (.arr e sz ver' xs' q'))) (updM m id mo') G')
  (hg:w.grownBy w' row) (hlen:∀ (i:Nat) (x:List D),xs'[i]? = some x→x.length=sz)
  (hmo:(mo'=none∧xs'=[])∨∃ b' cur,mo'=some b'∧(row=some b'∨(w.heap.size≤b'∧b' < w'.heap.size))∧w'.heap[b']? = some (.cells cur e (0,0))∧xs'.length * sz≤cur.size ∧
   ∀ i k x,zk xs' i k=some x→x.isFn=false∧∃ v,cur[i * sz+k]? = some v∧RD w S T v x) :
  Inv base w0 w' S0 S T (updH hp id (some (.arr e sz ver' xs' q'))) (updM m id mo') ∧
  ∀ v a,leafC w S T hp m v a→leafC w' S T (updH hp id (some (.arr e sz ver' xs' q'))) (updM m id mo') v a:=by
 have hrow:∀ b,row=some b→hot (hp id)=true∧m id=some b:=by
  intro b hb
  rcases hid with ⟨_,h2⟩ | ⟨ver,xs,q,h1,_,h3⟩
  ·rw [h2] at hb;cases hb
  ·exact ⟨by rw [h1];rfl,h3▸hb⟩
 have hrs:∀ b,row=some b→base≤b∧b < w.heap.size∧¬ S b:=fun b hb=>h.rng id b (hrow b hb).1 (hrow b hb).2
 have hst:∀ k,k < w.heap.size→row≠some k→w'.heap[k]? = w.heap[k]? := fun k hk hne=>hg.block k hk (Ne.symm hne)
 have hS:Stab S w w':=fun k hk=>hst k (h.slt k hk) fun e=>(hrs k e).2.2 hk
 have hT:Stab T w w':=fun k hk=>hst k (h.tl hk) fun e=>h.hotT (hrow k e).1 (hrow k e).2 hk
 have hoth:∀ i b,i≠id→hot (hp i)=true→m i=some b→w'.heap[b]? = w.heap[b]? := fun i b hi ho hm =>
  hst b (h.rng i b ho hm).2.1 fun e=>hi (h.inj i id b ho (hrow b e).1 hm (hrow b e).2)
 have hsame:∀ i,i≠id→Same w w' hp (updH hp id (some (.arr e sz ver' xs' q'))) m (updM m id mo') i:=fun i hi =>
  ⟨zA hi,zP hi,fun b cur e' ho hm hc=>(hoth i b hi ho hm).trans hc⟩
 have hext:∀ v a,leafC w S T hp m v a→leafC w' S T (updH hp id (some (.arr e sz ver' xs' q'))) (updM m id mo') v a:=by
  intro v a ha
  refine leafC.mono hS hT (fun _ h=>h) (fun i hx=>?_) (fun i ver v hx=>?_) (fun i ver cv j v s x hx=>?_) (fun i ver j off v hx=>?_) ha
  ·have hi:i≠id:=by
    rintro rfl
    obtain ⟨cs,hx⟩:=hx
    rcases hid with ⟨h1,_⟩ | ⟨_,_,_,h1,_⟩<;>rw [h1] at hx<;>cases hx
   exact ⟨by rw [zA hi];exact hx,zP hi⟩
  ·by_cases hi:i=id
   ·subst hi
    simp only [leafC,zr]
    have hx0:v.oneCell'=true:=by simp only [leafC] at hx;exact hx.1
    refine ⟨hx0,?_⟩
    rcases hid with ⟨h1,_⟩ | ⟨ver1,xs1,q1,h1,h2,_⟩
    ·simp only [leafC,h1] at hx;exact hx.2.elim
    ·simp only [leafC,h1] at hx
     replace hx:=hx.2
     exact ⟨by have:=hx.1;omega,fun hv=>by have:=hx.1;omega⟩
   ·exact zdE hS hT (fun _ h=>h) (fun _=>hsame i hi) hx
  ·by_cases hi:i=id
   ·subst hi
    simp only [zr]
    rcases hid with ⟨h1,_⟩ | ⟨ver1,xs1,q1,h1,h2,_⟩
    ·rw [h1] at hx;exact hx.elim
    ·simp only [h1] at hx
     exact ⟨by have:=hx.1;omega,fun hv=>by have:=hx.1;omega⟩
   ·exact zeh (fun _=>hsame i hi) hx
  ·by_cases hi:i=id
   ·subst hi
    simp only [leafC,zr]
    have hx0:∃ ad:Addr,v=.pointer (some ad):=by simp only [leafC] at hx;exact hx.1
    refine ⟨hx0,?_⟩
    rcases hid with ⟨h1,_⟩ | ⟨ver1,xs1,q1,h1,h2,_⟩
    ·simp only [leafC,h1] at hx;exact hx.2.elim
    ·simp only [leafC,h1] at hx
     replace hx:=hx.2
     exact ⟨by have:=hx.1;omega,fun hv=>by have:=hx.1;omega⟩
   ·exact zd9 hS hT (fun _ h=>h) (fun _=>hsame i hi) hx
 have hmb:∀ b',mo'=some b'→base≤b'∧b' < w'.heap.size∧¬ S b'∧∀ i,i≠id→hot (hp i)=true→m i≠some b':=by
  intro b' hb'
  rcases hmo with ⟨h1,_⟩ | ⟨b1,cur,h1,h2,_⟩
  ·rw [h1] at hb';cases hb'
  ·rw [h1] at hb'
   injection hb' with hb'
   subst hb'
   rcases h2 with h2 | ⟨h2,h3⟩
   ·obtain ⟨h4,h5,h6⟩:=hrs b1 h2
    exact ⟨h4,Nat.lt_of_lt_of_le h5 hg.size,h6,fun i hi ho hm=>hi (h.inj i id b1 ho (hrow b1 h2).1 hm (hrow b1 h2).2)⟩
   ·exact ⟨Nat.le_trans h.bsz h2,h3,fun hs=>by have:=h.slt _ hs;omega,fun i hi ho hm=>by have:=(h.rng i b1 ho hm).2.1;omega⟩
 have hho:∀ {i:Nat},i≠id→hot (updH hp id (some (.arr e sz ver' xs' q')) i)=true→hot (hp i)=true:=fun hi hx=>by rwa [zA hi] at hx
 refine ⟨{ below:=h.below.grown hg h.bsz (fun k hk=>(hrs k hk).1),bsz:=Nat.le_trans h.bsz hg.size,tlt:=h.tlt,s0:=h.s0,s1:=h.s1,s0lt:=h.s0lt,slt:=fun k hk=>Nat.lt_of_lt_of_le (h.slt k hk) hg.size,rng:=fun i b ho hm=>?_,inj:=fun i j b hi hj h1 h2=>?_,var:=fun i cs hcs=>?_,arr:=fun i e1 sz1 ver1 xs1 q1 hx=>?_,cl:=hcl },hext⟩
 ·by_cases hi:i=id
  ·subst hi
   rw [zH] at hm
   exact ⟨(hmb b hm).1,(hmb b hm).2.1,(hmb b hm).2.2.1⟩
  ·rw [zP hi] at hm
   obtain ⟨h1,h2,h3⟩:=h.rng i b (hho hi ho) hm
   exact ⟨h1,Nat.lt_of_lt_of_le h2 hg.size,h3⟩
 ·by_cases hi1:i=id
  ·by_cases hj1:j=id
   ·exact hi1.trans hj1.symm
   ·subst hi1
    rw [zH] at h1
    rw [zP hj1] at h2
    exact absurd h2 ((hmb b h1).2.2.2 j hj1 (hho hj1 hj))
  ·by_cases hj1:j=id
   ·subst hj1
    rw [zH] at h2
    rw [zP hi1] at h1
    exact absurd h1 ((hmb b h2).2.2.2 i hi1 (hho hi1 hi))
   ·rw [zP hi1] at h1
    rw [zP hj1] at h2
    exact h.inj i j b (hho hi1 hi) (hho hj1 hj) h1 h2
 ·have hi:i≠id:=fun e=>by rw [e,zr] at hcs;cases hcs
  rw [zA hi] at hcs
  obtain ⟨b,c,e',hm,hc,hl⟩:=h.var i cs hcs
  exact ⟨b,c,e',(zP hi).trans hm,(hoth i b hi (by rw [hcs];rfl) hm).trans hc,hl.mono hext⟩
 ·by_cases hi:i=id
  ·subst hi
   rw [zr] at hx
   injection hx with hx
   injection hx with q1 q2 q3 q4 q5
   subst q1 q2 q3 q4
   refine ⟨hlen,?_⟩
   rw [zH]
   rcases hmo with ⟨h1,h2⟩ | ⟨b1,cur,h1,h2,h3,h4,h5⟩
   ·rw [h1];exact h2
   ·rw [h1]
    exact ⟨cur,h3,h4,fun i k x hk=>⟨(h5 i k x hk).1,let ⟨v,hv,hr⟩:=(h5 i k x hk).2;⟨v,hv,hr.mono hS hT (fun _ h=>h) fun _ h=>h⟩⟩⟩
  ·rw [zA hi] at hx
   obtain ⟨h1,h2⟩:=h.arr i e1 sz1 ver1 xs1 q1 hx
   refine ⟨h1,?_⟩
   rw [zP hi]
   cases hm:m i with
   | none=>rw [hm] at h2;exact h2
   | some b =>
    rw [hm] at h2
    obtain ⟨cur,hc,hl,hq⟩:=h2
    exact ⟨cur,(hoth i b hi (by rw [hx];rfl) hm).trans hc,hl,fun i k x hk=>⟨(hq i k x hk).1,let ⟨v,hv,hr⟩:=(hq i k x hk).2;⟨v,hv,hr.mono hS hT (fun _ h=>h) fun _ h=>h⟩⟩⟩
structure Rsv (base:Nat) (S T:Nat→Prop) (G:Nat→Nat→Nat→Nat→Prop) (R:Nat→Nat→Nat→Prop):Prop where
 inS:∀ i c k,R i c k→S k∧base≤k∧¬ T k
 off:∀ i c k,R i c k→∀ id j c',¬ G id j c' k
 one:∀ i c i' c' k,R i c k→R i' c' k→i=i'∧c=c'
theorem Rsv.none {base:Nat} {S T:Nat→Prop} {G:Nat→Nat→Nat→Nat→Prop}:Rsv base S T G fun _ _ _=>False:=⟨fun _ _ _ h=>h.elim,fun _ _ _ h=>h.elim,fun _ _ _ _ _ h=>h.elim⟩
theorem Cl.grow' {G:Nat→Nat→Nat→Nat→Prop} (h:Cl base w S T hp m G) {id n:Nat} {R:Nat→Nat→Nat→Prop} (hR:Rsv base S T G R) {w':World} (hs:Stab S w w') {blk':Blk} {mo':Option Nat}
  (hoth:∀ i b,i≠id→hot (hp i)=true→m i=some b→w'.heap[b]? = w.heap[b]?)
  (hnew:∀ e sz ver xs d lo cv b cur,blk'=.arr e sz ver xs (d,lo,cv)→0 < d→mo'=some b→w'.heap[b]? = some (.cells cur e (0,0))→∀ i c x,lo≤i→zk xs i c=some x→∃ u,cur[i * sz+c]? = some u∧((i < n∧Fo d w u x (G id i c))∨(n≤i∧Fo d w u x (R (i - n) c)))) :
  ∃ G',Cl base w' S T (updH hp id (some blk')) (updM m id mo') G'∧∀ i j c k,G' i j c k→(∃ i' j' c',G i' j' c' k)∨∃ j' c',R j' c' k:=by
 let G':Nat→Nat→Nat→Nat→Prop:=fun i j c k=>(i≠id∧G i j c k)∨(i=id∧((j < n∧G id j c k)∨(n≤j∧R (j - n) c k)))
 refine ⟨G',⟨fun i j c k hk=>?_,fun i j c i' j' c' k h1 h2=>?_,fun i e sz ver xs d lo cv b cur h1 h2 h3 h4 j c x h5 h6=>?_⟩,fun i j c k hk=>?_⟩
 ·rcases hk with ⟨_,hk⟩ | ⟨_,⟨_,hk⟩ | ⟨_,hk⟩⟩
  ·exact h.gs _ _ _ _ hk
  ·exact h.gs _ _ _ _ hk
  ·exact hR.inS _ _ _ hk
 ·rcases h1 with ⟨n1,h1⟩ | ⟨e1,⟨l1,h1⟩ | ⟨l1,h1⟩⟩<;>rcases h2 with ⟨n2,h2⟩ | ⟨e2,⟨l2,h2⟩ | ⟨l2,h2⟩⟩
  ·exact h.gd _ _ _ _ _ _ _ h1 h2
  ·exact absurd (h.gd _ _ _ _ _ _ _ h1 h2).1 n1
  ·exact absurd h1 (hR.off _ _ _ h2 _ _ _)
  ·exact absurd (h.gd _ _ _ _ _ _ _ h1 h2).1.symm n2
  ·obtain ⟨_,q1,q2⟩:=h.gd _ _ _ _ _ _ _ h1 h2
   exact ⟨e1.trans e2.symm,q1,q2⟩
  ·exact absurd h1 (hR.off _ _ _ h2 _ _ _)
  ·exact absurd h2 (hR.off _ _ _ h1 _ _ _)
  ·exact absurd h2 (hR.off _ _ _ h1 _ _ _)
  ·obtain ⟨q1,q2⟩:=hR.one _ _ _ _ _ h1 h2
   exact ⟨e1.trans e2.symm,by omega,q2⟩
 ·by_cases hi:i=id
  ·subst hi
   rw [zr] at h1
   injection h1 with h1
   rw [zH] at h3
   obtain ⟨u,hu,hf⟩:=hnew e sz ver xs d lo cv b cur h1 h2 h3 h4 j c x h5 h6
   refine ⟨u,hu,?_⟩
   rcases hf with ⟨hj,hf⟩ | ⟨hj,hf⟩
   ·exact Fo.stab (fun k hk=>hs k (h.gs _ _ _ _ hk).1) (fun k hk=>.inr ⟨rfl,.inl ⟨hj,hk⟩⟩) hf
   ·exact Fo.stab (fun k hk=>hs k (hR.inS _ _ _ hk).1) (fun k hk=>.inr ⟨rfl,.inr ⟨hj,hk⟩⟩) hf
  ·rw [zA hi] at h1
   rw [zP hi] at h3
   rw [hoth i b hi (by rw [h1];rfl) h3] at h4
   obtain ⟨u,hu,hf⟩:=h.gf i e sz ver xs d lo cv b cur h1 h2 h3 h4 j c x h5 h6
   exact ⟨u,hu,Fo.stab (fun k hk=>hs k (h.gs _ _ _ _ hk).1) (fun k hk=>.inl ⟨hi,hk⟩) hf⟩
 ·rcases hk with ⟨_,hk⟩ | ⟨_,⟨_,hk⟩ | ⟨_,hk⟩⟩
  ·exact .inl ⟨_,_,_,hk⟩
  ·exact .inl ⟨_,_,_,hk⟩
  ·exact .inr ⟨_,_,hk⟩
theorem Cl.grow {G:Nat→Nat→Nat→Nat→Prop} (h:Cl base w S T hp m G) {id n:Nat} {R:Nat→Nat→Nat→Prop} (hR:Rsv base S T G R) {w':World} (hs:Stab S w w') {blk':Blk} {mo':Option Nat}
  (hoth:∀ i b,i≠id→hot (hp i)=true→m i=some b→w'.heap[b]? = w.heap[b]?)
  (hnew:∀ e sz ver xs d lo cv b cur,blk'=.arr e sz ver xs (d,lo,cv)→0 < d→mo'=some b→w'.heap[b]? = some (.cells cur e (0,0))→∀ i c x,lo≤i→zk xs i c=some x→∃ u,cur[i * sz+c]? = some u∧((i < n∧Fo d w u x (G id i c))∨(n≤i∧Fo d w u x (R (i - n) c)))) :
  ∃ G',Cl base w' S T (updH hp id (some blk')) (updM m id mo') G':=let ⟨G',h1,_⟩:=h.grow' hR hs hoth hnew;⟨G',h1⟩
end
end Ovi
namespace Ovi
open Go Go.RowKit
structure Step (base:Nat) (w0 w w':World) (S0 S S' T:Nat→Prop) (hp hp':Hp) (m m':MapM):Prop where
 inv:Inv base w0 w' S0 S' T hp' m'
 sub:∀ k,S k→S' k
 size:w.heap.size≤w'.heap.size
 ext:∀ v a,leafC w S T hp m v a→leafC w' S' T hp' m' v a
section
variable {base:Nat} {w0 w w' w'':World} {S0 S S' S'' T:Nat→Prop} {hp hp' hp'':Hp} {m m' m'':MapM}
theorem Step.refl (h:Inv base w0 w S0 S T hp m):Step base w0 w w S0 S S T hp hp m m:=⟨h,fun _ h=>h,Nat.le_refl _,fun _ _ h=>h⟩
theorem Step.trans (h:Step base w0 w w' S0 S S' T hp hp' m m') (k:Step base w0 w' w'' S0 S' S'' T hp' hp'' m' m''):Step base w0 w w'' S0 S S'' T hp hp'' m m'' :=
 ⟨k.inv,fun i hi=>k.sub i (h.sub i hi),Nat.le_trans h.size k.size,fun v a ha=>k.ext v a (h.ext v a ha)⟩
end
def Good (P:Program) (base:Nat) (w0 w:World) (S0 S T:Nat→Prop) (hp:Hp) (m:MapM) (o:Oper) (a:Act) (x:AV) (hp':Hp):Prop :=
 ∀ (K:Act→World→Prop) (Q:Exit→Act→World→Prop),(∀ v w' S' m',Step base w0 w w' S0 S S' T hp hp' m m'→AC w' S' T hp' m' v x→K (a.put o.dst v) w')→o.wp P a w K Q
section
variable {P:Program} {base:Nat} {w0 w w':World} {S0 S S' T:Nat→Prop} {hp hp':Hp} {m m':MapM} {o:Oper} {a:Act} {x:AV} {v:Value}
theorem Good.value (h:(execOp a.eval o).run P w=.ok (.value v) w') (hs:Step base w0 w w' S0 S S' T hp hp' m m') (hx:AC w' S' T hp' m' v x):Good P base w0 w S0 S T hp m o a x hp':=by
 intro K Q hK
 unfold Oper.wp
 rw [h]
 exact hK v w' S' m' hs hx
theorem Good.skip (h:(execOp a.eval o).run P w=.ok .skip w') (hd:o.dst=none) (hs:Step base w0 w w' S0 S S' T hp hp' m m'):Good P base w0 w S0 S T hp m o a (.tup []) hp':=by
 intro K Q hK
 unfold Oper.wp
 rw [h]
 have:=hK (.tuple #[]) w' S' m' hs ⟨#[],rfl,rfl,fun j a h=>by simp at h⟩
 simp only [Act.put,hd] at this
 simpa only [Oper.upon,Act.put,hd] using this
theorem Good.here (hI:Inv base w0 w S0 S T hp m) (h:(execOp a.eval o).run P w=.ok (.value v) w) (hx:AC w S T hp m v x):Good P base w0 w S0 S T hp m o a x hp :=
 Good.value h (Step.refl hI) hx
end
section
variable {w:World} {S T:Nat→Prop} {hp:Hp} {m:MapM}
theorem zhk {v:Value} {a:AV} (h:zf4 v=some a):leafC w S T hp m v a:=by
 unfold zf4 at h
 split at h<;>first | cases h | skip
 ·exact .int _ _
 ·exact .bool _
 ·exact .str _
 ·exact ⟨_,rfl⟩
theorem zgu:∀ {vs:List Value} {l:List AV},zex vs=some l→Leaves (leafC w S T hp m) vs.toArray l
 | [],l,h=>by
  cases h
  exact ⟨rfl,fun j a h=>by simp at h⟩
 | v::r,l,h=>by
  unfold zex at h
  split at h
  ·rename_i a b ha hb
   cases h
   obtain ⟨h1,h2⟩:=zgu hb
   refine ⟨by simpa using h1,fun j x hx=>?_⟩
   cases j with
   | zero =>
    simp only [List.getElem?_cons_zero,Option.some.injEq] at hx
    subst hx
    exact ⟨v,by simp,zhk ha⟩
   | succ j =>
    simp only [List.getElem?_cons_succ] at hx
    obtain ⟨u,hu,hr⟩:=h2 j x hx
    exact ⟨u,by simpa using hu,hr⟩
  ·cases h
theorem AC.leaf {v:Value} {a:AV} (h:leafC w S T hp m v a):AC w S T hp m v a:=by
 cases a<;>first | exact h | exact h.elim
theorem valC.leaf {v:Value} {a:AV} (h:leafC w S T hp m v a):valC w S T hp m v a:=by
 cases a<;>first | exact h | exact h.elim
theorem AC.val {v:Value} {a:AV} (h:valC w S T hp m v a):AC w S T hp m v a:=by
 cases a<;>first | exact h | exact h.elim
theorem AC.toVal {v:Value} {a:AV} (h:AC w S T hp m v a) (ht:∀ l,a≠.tup l):valC w S T hp m v a:=by
 cases a<;>first | exact h | exact absurd rfl (ht _)
theorem ziu {v:Value} {a:AV} (h:zhl v=some a):valC w S T hp m v a:=by
 unfold zhl at h
 split at h
 ·rename_i cs
  split at h
  ·rename_i l hl
   cases h
   exact ⟨cs,rfl,by simpa using zgu hl⟩
  ·cases h
 ·exact valC.leaf (zhk h)
variable {tm:Nat→Option AV} {a:Act}
theorem zT (hT:TmOk w S T hp m tm a.tmps) {x:Operand} {v:AV} (h:zI tm x=some v):AC w S T hp m (a.eval x) v:=by
 cases x with
 | tmp t =>
  obtain ⟨u,hu,hc⟩:=hT t v h
  simpa [Act.eval,Array.getD_eq_getD_getElem?, hu] using hc
 | const u=>exact AC.val (ziu h)
 | global g=>cases h
 | func f =>
  simp only [zI,Option.some.injEq] at h
  subst h
  exact .fn f #[] [] (fun _ _=>undef) rfl (fun j xs h=>by simp at h) (fun j c x h=>by simp [zk] at h)
theorem zdM (hT:TmOk w S T hp m tm a.tmps):∀ {xs:List Operand} {l:List AV},zcP (zI tm) xs=some l→Leaves (AC w S T hp m) (xs.map a.eval).toArray l
 | [],l,h=>by
  cases h
  exact ⟨rfl,fun j a h=>by simp at h⟩
 | x::r,l,h=>by
  unfold zcP at h
  split at h
  ·rename_i v b hv hb
   cases h
   obtain ⟨h1,h2⟩:=zdM hT hb
   refine ⟨by simpa using h1,fun j y hy=>?_⟩
   cases j with
   | zero =>
    simp only [List.getElem?_cons_zero,Option.some.injEq] at hy
    subst hy
    exact ⟨_,by simp,zT hT hv⟩
   | succ j =>
    simp only [List.getElem?_cons_succ] at hy
    obtain ⟨u,hu,hr⟩:=h2 j y hy
    exact ⟨u,by simpa using hu,hr⟩
  ·cases h
theorem zg9 (hT:TmOk w S T hp m tm a.tmps) {x:Operand} {v:AV} (h:zeQ (zI tm x)=some v):valC w S T hp m (a.eval x) v:=by
 unfold zeQ at h
 split at h
 ·cases h
 ·rename_i hne
  exact AC.toVal (zT hT h) (fun l e=>by rw [e] at h;exact hne _ h)
theorem zd0 (hT:TmOk w S T hp m tm a.tmps):∀ {ps:List (Nat × Operand)} {l:List (Nat × AV)},zbt (zI tm) ps=some l →
  ∃ vs:List (Nat × Value),ps.map (fun p=>(p.1,a.eval p.2))=vs∧vs.length=l.length∧∀ (j:Nat) (i:Nat) (x:AV),l[j]? = some (i,x)→∃ u,vs[j]? = some (i,u)∧valC w S T hp m u x
 | [],l,h=>by
  cases h
  exact ⟨[],rfl,rfl,fun j i x h=>by simp at h⟩
 | (i,y)::r,l,h=>by
  unfold zbt at h
  split at h
  ·rename_i v b hv hb
   cases h
   obtain ⟨vs,h0,h1,h2⟩:=zd0 hT hb
   refine ⟨(i,a.eval y)::vs,by simp [h0],by simp [h1],fun j i' x hx=>?_⟩
   cases j with
   | zero =>
    simp only [List.getElem?_cons_zero,Option.some.injEq,Prod.mk.injEq] at hx
    obtain ⟨rfl,rfl⟩:=hx
    exact ⟨_,rfl,zg9 hT hv⟩
   | succ j =>
    simp only [List.getElem?_cons_succ] at hx
    exact h2 j i' x hx
  ·cases h
theorem ziD {P:Program} {t:TypeId} {v:Value} {x:AV} (h:AC w S T hp m v x):AC w S T hp m v (zhw P t x):=by
 unfold zhw
 split
 ·split<;>exact h
 ·exact h
theorem zeJ {v:Value} {x:AV} (h:leafC w S T hp m v x):v.oneCell'=true:=by
 cases x with
 | d x=>cases h<;>rfl
 | pv sz l id ver cv i=>cases h.1;rfl
 | s sz l=>cases h.1;rfl
 | nil sz=>obtain ⟨A,rfl⟩:=h;rfl
 | own id ver=>simp only [leafC] at h;exact h.1
 | var id off=>obtain ⟨_,b,_,rfl⟩:=h;rfl
 | el id ver i off=>simp only [leafC] at h;obtain ⟨⟨ad,rfl⟩,_⟩:=h;rfl
 | imm l i off=>obtain ⟨ad,rfl,_⟩:=h;rfl
 | cap xs off=>obtain ⟨ad,rfl,_⟩:=h;rfl
 | fn f caps=>obtain ⟨vs,rfl,_⟩:=h;rfl
 | agg cs=>exact h.elim
 | tup vs=>exact h.elim
theorem zcb {v:Value} {a:AV} (h:AC w S T hp m v a):AC w S T hp m v a.strip:=by
 cases a<;>first | exact h | exact h.1
theorem zbR {v:Value} {x:AV} (h:valC w S T hp m v x):Leaves (leafC w S T hp m) v.cells x.cells:=by
 have one:∀ {v:Value} {x:AV},leafC w S T hp m v x→Leaves (leafC w S T hp m) #[v] [x]:=by
  intro v x h
  refine ⟨rfl,fun j a ha=>?_⟩
  cases j with
  | zero=>simp only [List.getElem?_cons_zero,Option.some.injEq] at ha;subst ha;exact ⟨v,rfl,h⟩
  | succ j=>simp at ha
 have na:∀ {v:Value} {x:AV},leafC w S T hp m v x→v.cells=#[v]:=by
  intro v x h
  have:=zeJ h
  cases v<;>first | rfl | cases this
 cases x with
 | agg cs=>obtain ⟨vs,rfl,hl⟩:=h;exact hl
 | _=>simp only [AV.cells,valC] at h ⊢;rw [na h];exact one h
end
end Ovi
namespace Ovi
open Go Go.RowKit
section
variable {P:Program} {call:zi} {hp hp':Hp} {l l':Log} {w:World} {S T:Nat→Prop} {m:MapM} {t:TypeId} {v u:Value} {x y z:AV}
theorem zoT {op:BinOp} {k:IntKind} {a b:Int} (h:(opI op k a b).run call hp l=some (z,hp',l')) :
  hp'=hp∧∃ r,(Go.binOp op t (.int k a) (.int k b)).run P w=.ok r w∧leafC w S T hp m r z:=by
 cases op<;>simp only [opI] at h<;>try (cases h;done)
 case add=>obtain ⟨rfl,rfl⟩:=ze h;exact ⟨rfl,_,by simp [Go.binOp,Op.intArith],.int _ _⟩
 case sub=>obtain ⟨rfl,rfl⟩:=ze h;exact ⟨rfl,_,by simp [Go.binOp,Op.intArith],.int _ _⟩
 case mul=>obtain ⟨rfl,rfl⟩:=ze h;exact ⟨rfl,_,by simp [Go.binOp,Op.intArith],.int _ _⟩
 case quo =>
  obtain ⟨h0,h⟩:=ziB h
  obtain ⟨rfl,rfl⟩:=ze h
  have h0:b≠0:=by simpa using h0
  exact ⟨rfl,_,by rw [binOp_quo];unfold Op.intDiv;rw [if_neg h0];rfl,.int _ _⟩
 case rem =>
  obtain ⟨h0,h⟩:=ziB h
  obtain ⟨rfl,rfl⟩:=ze h
  have h0:b≠0:=by simpa using h0
  exact ⟨rfl,_,by rw [binOp_rem];unfold Op.intDiv;rw [if_neg h0];rfl,.int _ _⟩
 all_goals
  obtain ⟨rfl,rfl⟩:=ze h
  exact ⟨rfl,_,by cases k<;>rfl,.bool _⟩
theorem zlr (s s':ByteArray):(s++s').data.toList=s.data.toList++s'.data.toList:=by rw [ByteArray.data_append];exact Array.toList_append
theorem ze4 (s:ByteArray):s.data.toList.length=s.size:=Array.length_toList
theorem zoU {op:BinOp} {s s':ByteArray} (h:(opS op s.data.toList s'.data.toList).run call hp l=some (z,hp',l')) :
  hp'=hp∧∃ r,(Go.binOp op t (.string s) (.string s')).run P w=.ok r w∧leafC w S T hp m r z:=by
 have e:∀ x:ByteArray,x.toList=x.data.toList:=fun x=>ByteArray.toList_eq x
 cases op<;>simp only [opS] at h<;>try (cases h;done)
 case add =>
  obtain ⟨h0,h⟩:=zbD h
  obtain ⟨rfl,rfl⟩:=ze h
  simp only [fits,ze4,decide_eq_true_eq] at h0
  refine ⟨rfl,.string (s++s'),?_,?_⟩
  ·have e64:IntKind.i64.max=9223372036854775807:=by decide
   have:¬ (IntKind.i64.max < ((s.size+s'.size:Nat):Int)):=by rw [e64];omega
   simp only [Go.binOp,Op.stringOp,gt_iff_lt,this,if_false]
   rfl
  ·rw [← zlr];exact .str _
 all_goals
  obtain ⟨rfl,rfl⟩:=ze h
  refine ⟨rfl,_,?_,RD.bool _⟩
  simp only [Go.binOp,Op.stringOp,e,zaX]
  rfl
theorem zmm (h:zk2 P t=true):P.underlying t=some .bool:=by
 unfold zk2 at h
 split at h
 ·assumption
 ·cases h
theorem zme (h:zep P t=true):∃ e,P.underlying t=some (.slice e):=by
 unfold zep at h
 split at h
 ·exact ⟨_,by assumption⟩
 ·cases h
theorem zkX (h:strT P t=true):P.underlying t=some .string:=by
 unfold strT at h
 split at h
 ·assumption
 ·cases h
theorem zbB {e:TypeId} (h:zbI P t=some e):P.underlying t=some (.slice e):=by
 unfold zbI at h
 split at h
 ·cases h;assumption
 ·cases h
theorem za6 {k:IntKind} {n:Int} (h:AC w S T hp m v (.d (.int k n))):v=.int k n:=by cases h;rfl
theorem zca {b:Bool} (h:AC w S T hp m v (.d (.bool b))):v=.bool b:=by cases h;rfl
theorem zes {b:List UInt8} (h:AC w S T hp m v (.d (.str b))):∃ s:ByteArray,v=.string s∧b=s.data.toList:=by cases h;exact ⟨_,rfl,rfl⟩
theorem zmz {sz:Nat} {xs:Rows} (h:AC w S T hp m v (.d (.list sz xs))):∃ A cap,v=.slice A xs.length cap:=by cases h;exact ⟨_,_,rfl⟩
theorem znY {f:TypeId} {k:FK} {d:Nat} {a b:AV} {u v:Value} {r:Bool} (hk:zdV P f=some k) (hu:leafC w S T hp m u a) (hv:leafC w S T hp m v b) (h:eqF k a b=some r):(Op.equalIn (d+1) f u v).run P w=.ok r w:=by
 unfold eqF at h
 split at h
 ·rename_i k1 x k2 y
  split at h
  ·rename_i hkk
   obtain rfl:=of_decide_eq_true hkk
   cases h
   cases hu;cases hv
   unfold zdV at hk
   split at hk<;>rename_i hf<;>first | cases hk;done | skip
   exact run_equalIn_int w d f _ _ x y hf
  ·cases h
 ·rename_i x y
  cases h
  cases hu;cases hv
  unfold zdV at hk
  split at hk<;>rename_i hf<;>first | cases hk;done | skip
  rw [run_equalIn_string w d f _ _ hf,ByteArray.toList_eq,ByteArray.toList_eq]
 ·rename_i x y
  cases h
  cases hu;cases hv
  unfold zdV at hk
  split at hk<;>rename_i hf<;>first | cases hk;done | skip
  exact run_equalIn_bool' w d f _ _ hf
 ·cases h
theorem zhI {f:TypeId} {k:FK} {xs:Array Value} {off:Nat} {u:Value} (hk:zdV P f=some k) (hx:xs[off]? = some u):(part f xs off).run P w=.ok u w:=by
 unfold zdV at hk
 split at hk<;>rename_i hf<;>first | cases hk;done | simp [part,isAgg,run_underlying hf,hx]
theorem zi8:∀ (fs gs:List Field),fs.length=gs.length→((fs.zip gs).all fun p=>p.1.name==p.2.name)=true→fs.map (·.name)=gs.map (·.name)
 | [],[],_,_=>rfl
 | [],_::_,h,_=>by simp at h
 | _::_,[],h,_=>by simp at h
 | f::fs,g::gs,h,h2=>by
  simp only [List.zip_cons_cons,List.all_cons,Bool.and_eq_true,beq_iff_eq] at h2
  simp only [List.map_cons,h2.1]
  rw [zi8 fs gs (by simpa using h) h2.2]
theorem zmF (h:zlh P t=true):P.stoodInHeld t=false:=by
 unfold zlh at h
 split at h
 ·rename_i gs hg
  have key:(P.cutTypes.toList.filter fun c=>P.alikeButTags P.depth (P.underlyingId c.2) (P.underlyingId t))=[]:=by
   rw [List.filter_eq_nil_iff]
   intro c hc hal
   have h1:=List.all_eq_true.1 h c hc
   simp only [Bool.and_eq_true,Bool.not_eq_true'] at h1
   obtain ⟨h2,h3⟩:=h1
   have hd:P.depth=(2 * (P.types.size+Made.depth)+1)+1:=rfl
   rw [hd] at hal
   unfold Program.alikeButTags at hal
   have hne:(P.underlyingId c.2==P.underlyingId t)=false:=by
    rw [beq_eq_false_iff_ne]
    intro e
    rw [e] at h2
    simp at h2
   rw [hne,Bool.false_or] at hal
   simp only [hg] at hal
   split at h3
   ·rename_i fs hf
    simp only [hf] at hal
    simp only [Bool.and_eq_true,beq_iff_eq] at hal
    have hall:((fs.toList.zip gs.toList).all fun p=>p.1.name==p.2.name)=true:=by
     rw [List.all_eq_true]
     intro p hp
     have h5:=hal.2
     rw [← Array.all_toList,Array.toList_zip,List.all_eq_true] at h5
     have:=h5 p hp
     simp only [Bool.and_eq_true] at this
     exact this.1.1.1
    have:=zi8 fs.toList gs.toList (by simpa using hal.1) hall
    rw [this] at h3
    simp at h3
   ·rename_i hnf
    cases hu:(P.info? (P.underlyingId c.2)).map (·.desc) with
    | none=>rw [hu] at hal;simp at hal
    | some d =>
     rw [hu] at hal
     cases d<;>simp at hal
     exact hnf _ hu
  unfold Program.stoodInHeld Program.stoodInAs
  split<;>simp [key]
 ·cases h
theorem zhz:∀ {fs:List Field} {i:Nat} {a b:List AV} {r:Bool} {d:Nat},eqFs P i fs a b=some r→(fs.any fun f=>f.name != "_" && P.eqGuardType (d+1) f.type)=false
 | [],i,a,b,r,d,h=>rfl
 | f::fs,i,a,b,r,d,h=>by
  cases a with
  | nil=>simp [eqFs] at h
  | cons x a =>
  cases b with
  | nil=>simp [eqFs] at h
  | cons y b =>
  simp only [eqFs] at h
  cases hc:(f.name != "_" && Nat.beq f.offset i) with
  | false=>rw [hc] at h;cases h
  | true =>
   rw [hc] at h
   simp only [cond_true] at h
   split at h
   ·rename_i k hk
    split at h
    ·rename_i p q hp1 hq1
     have:P.eqGuardType (d+1) f.type=false:=by
      unfold zdV at hk
      split at hk<;>rename_i hf<;>first | cases hk;done | simp [Program.eqGuardType,hf]
     rw [List.any_cons,this,zhz (d:=d) hq1]
     simp
    ·cases h
   ·cases h
theorem zkE {d:Nat} {xs ys:Array Value}:∀ {fs:List Field} {i:Nat} {a b:List AV} {r:Bool},eqFs P i fs a b=some r→(∀ (j:Nat) x,a[j]? = some x→∃ u,xs[i+j]? = some u∧leafC w S T hp m u x)→(∀ (j:Nat) x,b[j]? = some x→∃ u,ys[i+j]? = some u∧leafC w S T hp m u x) →
  (Op.eqFields (d+1) xs ys fs).run P w=.ok r w
 | [],i,a,b,r,h,ha,hb=>by
  cases a<;>cases b<;>simp only [eqFs] at h<;>first | cases h;done | skip
  cases h
  rfl
 | f::fs,i,a,b,r,h,ha,hb=>by
  cases a with
  | nil=>simp [eqFs] at h
  | cons x a =>
  cases b with
  | nil=>simp [eqFs] at h
  | cons y b =>
  simp only [eqFs] at h
  cases hc:(f.name != "_" && Nat.beq f.offset i) with
  | false=>rw [hc] at h;cases h
  | true =>
   rw [hc] at h
   simp only [cond_true] at h
   split at h
   ·rename_i k hk
    split at h
    ·rename_i p q hp1 hq1
     cases h
     simp only [Bool.and_eq_true] at hc
     have hoff:=Nat.eq_of_beq_eq_true hc.2
     obtain ⟨u,hu,hlu⟩:=ha 0 x rfl
     obtain ⟨v,hv,hlv⟩:=hb 0 y rfl
     have ih:=zkE (d:=d) (xs:=xs) (ys:=ys) hq1 (fun j x hx=>by have:=ha (j+1) x hx;rwa [show i+(j+1)=i+1+j by omega] at this) (fun j x hx=>by have:=hb (j+1) x hx;rwa [show i+(j+1)=i+1+j by omega] at this)
     have hne:f.name ≠ "_" := by simpa using hc.1
     unfold Op.eqFields
     rw [if_pos hne]
     simp only [Sem.run_bind,hoff]
     rw [zhI hk (by simpa using hu)]
     simp only [Result.andThen_ok]
     rw [zhI hk (by simpa using hv)]
     simp only [Result.andThen_ok]
     rw [znY hk hlu hlv hp1]
     simp only [Result.andThen_ok]
     cases p with
     | true=>simpa using ih
     | false=>simp
    ·cases h
   ·cases h
theorem zml {op:BinOp} {p q:Operand} (hx:AC w S T hp m v x) (hy:AC w S T hp m u y) (h:(binOp P t op x y).run call hp l=some (z,hp',l')) :
  hp'=hp∧∃ r,(do eqGuard op t p q v u;Go.binOp op t v u).run P w=.ok r w∧leafC w S T hp m r z:=by
 unfold binOp at h
 split at h
 ·obtain rfl:=za6 hx
  obtain rfl:=za6 hy
  split at h
  ·rename_i hk
   obtain rfl:=of_decide_eq_true hk
   obtain ⟨h1,r,h2,h3⟩:=zoT (P:=P) (w:=w) (S:=S) (T:=T) (m:=m) (t:=t) h
   exact ⟨h1,r,by simp [eqGuard_at_int,h2],h3⟩
  ·cases h
 ·obtain ⟨s,rfl,rfl⟩:=zes hx
  obtain ⟨s',rfl,rfl⟩:=zes hy
  obtain ⟨h1,r,h2,h3⟩:=zoU (P:=P) (w:=w) (S:=S) (T:=T) (m:=m) (t:=t) h
  exact ⟨h1,r,by simp [eqGuard_at_string,h2],h3⟩
 ·obtain rfl:=zca hx
  obtain rfl:=zca hy
  obtain ⟨hb,h⟩:=zB h
  have hb:=zmm hb
  have he:∀ a b:Bool,(Op.equal t (.bool a) (.bool b)).run P w=.ok (a==b) w:=fun a b=>by
   unfold Op.equal Op.maxDepth Op.equalIn
   simp only [Sem.run_bind,run_underlying hb,Result.andThen_ok,Sem.run_pure]
  split at h
  ·obtain ⟨rfl,rfl⟩:=ze h
   exact ⟨rfl,_,by simp only [eqGuard_at_bool,Go.binOp,Sem.run_bind,Sem.run_pure,Result.andThen_ok,he],.bool _⟩
  ·obtain ⟨rfl,rfl⟩:=ze h
   exact ⟨rfl,_,by simp only [eqGuard_at_bool,Go.binOp,Sem.run_bind,Sem.run_pure,Result.andThen_ok,he],.bool _⟩
  ·cases h
 ·rename_i a b
  split at h
  ·rename_i fs hfs
   obtain ⟨hc,h⟩:=zB h
   have hc:=zmF hc
   split at h
   ·rename_i r hr
    have hgd:P.eqGuardType P.depth t=false:=by
     have hd:P.depth=(2 * (P.types.size+Made.depth)+1)+1:=rfl
     rw [hd]
     simp only [Program.eqGuardType,hfs]
     rw [← Array.any_toList]
     exact zhz hr
    obtain ⟨xs,rfl,hx1,hx2⟩:=hx
    obtain ⟨ys,rfl,hy1,hy2⟩:=hy
    have hfo:P.fieldsOf t=fs:=by simp [Program.fieldsOf,hfs]
    have he:(Op.equalIn 10000 t (.agg xs) (.agg ys)).run P w=.ok r w:=by
     rw [show 10000=9999+1 from rfl,run_equalIn_agg w 9999 t xs ys (by rw [hfo];exact hfs) hc,hfo]
     exact zkE (d:=9998) hr (fun j x hx=>by rw [Nat.zero_add];exact hx2 j x hx) (fun j x hx=>by rw [Nat.zero_add];exact hy2 j x hx)
    split at h
    ·obtain ⟨rfl,rfl⟩:=ze h
     exact ⟨rfl,.bool r,by simp only [Sem.run_bind,run_eqGuard_agg w _ t p q xs ys hgd,Result.andThen_ok,run_eql_struct,he],.bool _⟩
    ·obtain ⟨rfl,rfl⟩:=ze h
     exact ⟨rfl,.bool (!r),by simp only [Sem.run_bind,run_eqGuard_agg w _ t p q xs ys hgd,Result.andThen_ok,run_neq_struct,he],.bool _⟩
    ·cases h
   ·cases h
  ·cases h
 ·cases h
theorem znP {op:UnOp} (hx:AC w S T hp m v x) (h:(unOp op x).run call hp l=some (z,hp',l')) :
  hp'=hp∧∃ r,(Op.unary op v).run P w=.ok r w∧leafC w S T hp m r z:=by
 unfold unOp at h
 split at h
 ·obtain rfl:=zca hx
  split at h
  ·obtain ⟨rfl,rfl⟩:=ze h
   exact ⟨rfl,_,by simp [Op.unary]<;>rfl,.bool _⟩
  ·cases h
 ·obtain rfl:=za6 hx
  split at h
  ·obtain ⟨rfl,rfl⟩:=ze h
   exact ⟨rfl,_,by simp [Op.unary,Op.intArith]<;>rfl,.int _ _⟩
  ·cases h
 ·cases h
theorem zcD {id n:Nat} (h:AC w S T hp m v (.own id n)):leafC w S T hp m v (.own id n):=h
theorem zbN {id n e sz:Nat} {xs:Rows} {q:Cm} (h:AC w S T hp m v (.own id n)) (hid:hp id=some (.arr e sz n xs q)):OwnC w (m id) e sz v xs.length:=by
 have h:=zcD h
 simp only [leafC,hid] at h
 exact h.2.2 trivial
theorem zgf {id n sz:Nat} {xs:Rows} (h:AC w S T hp m v (.own id n)) (hid:hp id=some (.frz sz n xs)):RD w S T v (.list sz xs):=by
 have h:=zcD h
 simp only [leafC,hid] at h
 exact h.2 trivial
theorem zgy:∀ {xs:Rows} {l:List UInt8},zd7 xs=some l→xs=l.map fun b=>[.int .u8 (b.toNat:Int)]
 | [],l,h=>by cases h;rfl
 | [.int .u8 n]::r,l,h=>by
  unfold zd7 at h
  split at h
  ·rename_i l' h1 h2
   cases h
   have h1:=of_decide_eq_true h1
   rw [zgy h2]
   have:((UInt8.ofNat n.toNat).toNat:Int)=n:=by
    rw [UInt8.toNat_ofNat']
    omega
   rw [List.map_cons,this]
  ·cases h
theorem znu {base:Nat} {w0:World} {S0:Nat→Prop} {src dst:TypeId} (hI:Inv base w0 w S0 S T hp m) (hx:AC w S T hp m v x) (h:(conv P src dst x).run call hp l=some (z,hp',l')) :
  hp'=hp∧∃ r,(Go.convert src dst v).run P w=.ok r w∧leafC w S T hp m r z:=by
 unfold conv at h
 split at h
 ·rename_i id n
  obtain ⟨hb,h⟩:=zB h
  obtain ⟨blk,h1,l1,hg,g⟩:=bind_some h
  obtain ⟨hid,rfl⟩:=zae hg
  split at g
  ·rename_i e sz m' xs q0
   obtain ⟨hc,g1⟩:=zB g
   rw [Bool.and_eq_true] at hc
   obtain rfl:=Nat.eq_of_beq_eq_true hc.1
   obtain rfl:=Nat.eq_of_beq_eq_true hc.2
   obtain ⟨s,hs,g2⟩:=zef g1
   obtain ⟨rfl,rfl⟩:=ze g2
   have hxs:=zgy hs
   refine ⟨rfl,.string ⟨s.toArray⟩,?_,by have:=RD.str (w:=w) (S:=S) (T:=T) ⟨s.toArray⟩;simp only [leafC];simpa using this⟩
   unfold zlC at hb
   split at hb
   ·rename_i e' he' hd
    split at hb
    ·rename_i hu8
     have hsl:P.underlying src=some (.slice e'):=by
      unfold zbI at he'
      split at he'
      ·rename_i e2 h2;cases he';exact h2
      ·cases he'
     have hown:=zbN hx hid
     obtain ⟨_,h2⟩:=hI.arr _ _ _ _ _ _ hid
     cases hm:m id with
     | none =>
      rw [hm] at h2 hown
      obtain ⟨_,A,rfl⟩:=hown
      have hz:s=[]:=by rw [h2] at hxs;cases s with | nil=>rfl | cons a b=>simp at hxs
      subst hz
      cases A with
      | none=>exact Go.Lib.run_convert_nil_bytes w src dst e' 0 hsl hu8 hd
      | some a=>exact run_convert_bytes_back w src dst e' a 0 [] hsl hu8 hd (fun j hj=>by simp at hj)
     | some b =>
      rw [hm] at h2 hown
      obtain ⟨cap,cur,rfl,hcur,_,_,_⟩:=hown
      obtain ⟨cur',hcur',_,hq⟩:=h2
      rw [hcur] at hcur'
      cases hcur'
      have hlen:xs.length=s.length:=by rw [hxs];simp
      rw [hlen]
      refine run_convert_bytes_back w src dst e' _ cap s hsl hu8 hd fun j hj=>?_
      obtain ⟨_,q,hq1,hq2⟩:=hq j 0 (.int .u8 (s[j].toNat:Int)) (by rw [hxs];simp [zk,List.getElem?_eq_getElem hj])
      cases hq2
      rw [add_at]
      simp only [World.cell?, hcur,Nat.zero_add]
      simpa using hq1
    ·cases hb
   ·cases hb
  ·cases g
 ·obtain rfl:=za6 hx
  split at h
  ·rename_i h1 h2
   obtain ⟨rfl,rfl⟩:=ze h
   exact ⟨rfl,_,by simp [Go.convert,run_underlying h1,run_underlying h2,Conv.intToInt]<;>rfl,.int _ _⟩
  ·cases h
 ·cases h
theorem OwnC.slice {mo:Option Nat} {e sz n:Nat} (h:OwnC w mo e sz v n):∃ A cap,v=.slice A n cap:=by
 cases mo with
 | none=>obtain ⟨rfl,A,rfl⟩:=h;exact ⟨A,0,rfl⟩
 | some b=>obtain ⟨cap,cur,rfl,_⟩:=h;exact ⟨_,_,rfl⟩
theorem RD.slice {sz:Nat} {xs:Rows} (h:RD w S T v (.list sz xs)):∃ A cap,v=.slice A xs.length cap:=by cases h;exact ⟨_,_,rfl⟩
theorem zC {a b:Nat} (h:Nat.beq a b=true):a=b:=Nat.eq_of_beq_eq_true h
theorem zdb {ty:TypeId} {ats:Array TypeId} {vs:Array Value} (ha:ats[0]? = some t) (h:zep P t=true) (A:Option Addr) (n c:Nat) (hv:vs[0]? = some (.slice A n c)):(Builtin.len_ ats ty vs).run P w=.ok (.int .i64 n) w:=by
 obtain ⟨e,h⟩:=zme h
 simp [Builtin.len_,ha,hv,run_underlying h,goInt]
theorem zny {ty:TypeId} {ats:Array TypeId} {vs:Array Value} (ha:ats[0]? = some t) (hv:vs[0]? = some v) (hx:AC w S T hp m v x) (h:(lenA P t x).run call hp l=some (z,hp',l')) :
  hp'=hp∧∃ r,(Builtin.len_ ats ty vs).run P w=.ok r w∧leafC w S T hp m r z:=by
 unfold lenA at h
 split at h
 ·obtain ⟨ht,h⟩:=zB h
  obtain ⟨rfl,rfl⟩:=ze h
  obtain ⟨A,c,rfl⟩:=zmz hx
  exact ⟨rfl,_,zdb ha ht _ _ _ hv,.int _ _⟩
 ·obtain ⟨ht,h⟩:=zB h
  obtain ⟨rfl,rfl⟩:=ze h
  obtain ⟨s,rfl,rfl⟩:=zes hx
  exact ⟨rfl,.int .i64 s.size,by simp [Builtin.len_,ha,hv,run_underlying (zkX ht),goInt],by rw [zga,ze4];exact .int _ _⟩
 ·obtain ⟨ht,h⟩:=zB h
  obtain ⟨rfl,rfl⟩:=ze h
  obtain ⟨A,rfl⟩:=hx
  exact ⟨rfl,_,zdb ha ht _ _ _ hv,.int _ _⟩
 ·obtain ⟨ht,h⟩:=zB h
  obtain ⟨b,h1,l1,hb,g⟩:=bind_some h
  obtain ⟨hid,rfl⟩:=zae hb
  clear h
  split at g
  ·obtain ⟨hm,g⟩:=zB g
   obtain ⟨rfl,rfl⟩:=ze g
   obtain rfl:=zC hm
   obtain ⟨A,c,rfl⟩:=(zbN hx hid).slice
   exact ⟨rfl,_,zdb ha ht _ _ _ hv,.int _ _⟩
  ·obtain ⟨hm,g⟩:=zB g
   obtain ⟨rfl,rfl⟩:=ze g
   obtain rfl:=zC hm
   obtain ⟨A,c,rfl⟩:=(zgf hx hid).slice
   exact ⟨rfl,_,zdb ha ht _ _ _ hv,.int _ _⟩
  ·cases g
 ·cases h
theorem ziW {id ver cv i:Nat} {q:Value} {d y:D} (h:leafC w S T hp m q (.d y)) (hC:CL d y) (hp1:∀ sz l sz',y=.list sz l→d=.list sz' l→(l=[]∨sz'=sz)→pvC w (m id) (hp id) ver cv i q sz l):leafC w S T hp m q (zj7 id ver cv i (.d y)):=by
 cases y<;>first | exact h | skip
 rename_i sz l
 obtain ⟨sz',h1,h2⟩:=hC sz l rfl
 exact ⟨h,hp1 sz l sz' rfl h1 h2⟩
theorem zks {id i off ver e sz b:Nat} {xs:Rows} {q:Cm} {cur:Array Value} (hid:hp id=some (.arr e sz ver xs q)) (hm:m id=some b) (hc:w.heap[b]? = some (.cells cur e (0,0))) (hv:v=zb0 b (i * sz+off)) (hz:0≤sz)
  {B:Nat→Prop} (hcell:CellsAt w B S T v fun c=>zk xs i (off+c)) (h:(zjY P t q xs id ver i off).run call hp l=some (z,hp',l')) :
  hp'=hp∧∃ r,(Instr.loadAt t v).run P w=.ok r w∧valC w S T hp m r z:=by
 obtain ⟨d,lo,cv⟩:=q
 cases d with
 | zero =>
  obtain ⟨h1,r,h2,h3,_⟩:=zc9 (P:=P) (t:=t) hcell h
  exact ⟨h1,r,h2,h3 _ _⟩
 | succ d =>
  obtain ⟨x0,h1,l1,hx,g⟩:=bind_some h
  obtain ⟨rfl,rfl⟩:=ze g
  obtain ⟨rfl,r,h2,h3,ad,hva,hlr⟩:=zc9 (P:=P) (t:=t) hcell hx
  refine ⟨rfl,r,h2,?_⟩
  rw [hv] at hva
  simp only [zb0,Value.pointer.injEq,Option.some.injEq] at hva
  subst hva
  have hval:=h3 hp' m
  have cell:∀ {j:Nat} {u:Value},w.cell? ((⟨b,i * sz+off,none⟩:Addr).add j)=some u→cur[i * sz+(off+j)]? = some u:=by
   intro j u hu
   rw [add_at] at hu
   simp only [World.cell?, hc] at hu
   rw [← Nat.add_assoc]
   exact hu
  have mk:∀ {j:Nat} {u:Value} {dd:D} {sz0 sz':Nat} {l0:Rows},w.cell? ((⟨b,i * sz+off,none⟩:Addr).add j)=some u→zk xs i (off+j)=some dd→dd=.list sz' l0→(l0=[]∨sz'=sz0)→pvC w (m id) (hp' id) ver cv i u sz0 l0:=by
   intro j u dd sz0 sz' l0 hu hd he hor
   rw [hid]
   subst he
   exact ⟨Nat.le_refl _,fun _ _=>⟨Nat.le_refl _,fun _=>⟨b,cur,off+j,sz',hm,hc,cell hu,hd,hor⟩⟩⟩
  cases x0 with
  | agg a =>
   obtain ⟨us,rfl,hsz,hj⟩:=hlr
   obtain ⟨us',he,hl⟩:=hval
   cases he
   refine ⟨us,rfl,by rw [List.length_map];exact hsz,fun j c hcj=>?_⟩
   rw [List.getElem?_map] at hcj
   obtain ⟨b0,hb0,rfl⟩:=Option.map_eq_some_iff.1 hcj
   obtain ⟨q,dd,y,k1,k2,k3,rfl,k5⟩:=hj j b0 hb0
   obtain ⟨q',k6,k7⟩:=hl.2 j _ hb0
   rw [k1] at k6
   cases k6
   exact ⟨q,k1,ziW k7 k5 fun sz0 l0 sz' e1 e2 e3=>mk k2 k3 e2 e3⟩
  | d y =>
   obtain ⟨dd,k1,k2,k3⟩:=hlr
   exact valC.leaf (ziW hval k3 fun sz0 l0 sz' e1 e2 e3=>mk k1 k2 e2 e3)
  | _=>exact hlr.elim
theorem zkO {base:Nat} {w0:World} {S0:Nat→Prop} (hI:Inv base w0 w S0 S T hp m) (hx:AC w S T hp m v x) (h:(load P t x).run call hp l=some (z,hp',l')) :
  hp'=hp∧∃ r,(Instr.loadAt t v).run P w=.ok r w∧valC w S T hp m r z:=by
 unfold load at h
 split at h
 ·obtain ⟨b,h1,l1,hb,g⟩:=bind_some h
  obtain ⟨hid,rfl⟩:=zae hb
  clear h
  split at g
  ·obtain ⟨_,b,hm,rfl⟩:=hx
   obtain ⟨b',c,e,hm',hc,hl⟩:=hI.var _ _ hid
   rw [hm] at hm'
   cases hm'
   obtain ⟨h1,r,h2,h3⟩:=ziM (P:=P) (t:=t) (m:=m) (ad:=⟨b,_,none⟩) (R:=leafC w S T h1 m) (fun _ _ h=>h) (fun k a hk=>by
    obtain ⟨u,hu,hr⟩:=hl.2 _ _ hk
    refine ⟨u,?_,hr⟩
    rw [add_at]
    simp only [World.cell?, hc]
    exact hu) g
   exact ⟨h1,r,h2,h3⟩
  ·cases g
 ·obtain ⟨b,h1,l1,hb,g⟩:=bind_some h
  obtain ⟨hid,rfl⟩:=zae hb
  clear h
  have hx:leafC w S T h1 m v (.el _ _ _ _):=hx
  split at g
  ·obtain ⟨hm,h⟩:=zB g
   obtain rfl:=zC hm
   simp only [leafC,hid] at hx
   obtain ⟨hi,b,hmm,rfl⟩:=hx.2.2 trivial
   obtain ⟨hlen,hrest⟩:=hI.arr _ _ _ _ _ _ hid
   rw [hmm] at hrest
   obtain ⟨cur,hc,hsz,hcs⟩:=hrest
   rename_i i off _ e0 sz0 m0 xs0 q0 _
   have:CellsAt w (fun _=>True) S T (zb0 b (i * sz0+off)) fun c=>zk xs0 i (off+c):=⟨_,rfl,fun c d hd=>⟨trivial,by
    obtain ⟨_,u,hu,hr⟩:=hcs _ _ _ hd
    refine ⟨u,?_,hr⟩
    rw [add_at]
    simp only [World.cell?, hc]
    rw [Nat.add_assoc]
    exact hu⟩⟩
   exact zks hid hmm hc rfl (by omega) this h
  ·obtain ⟨hm,h⟩:=zB g
   obtain rfl:=zC hm
   simp only [leafC,hid] at hx
   obtain ⟨h1,r,h2,h3,_⟩:=zc9 (P:=P) (t:=t) (hx.2 trivial) h
   exact ⟨h1,r,h2,h3 _ _⟩
  ·cases g
 ·obtain ⟨h1,r,h2,h3,_⟩:=zc9 (P:=P) (t:=t) (v:=v) hx h
  exact ⟨h1,r,h2,h3 _ _⟩
 ·obtain ⟨ad,rfl,hc⟩:=hx
  obtain ⟨h1,r,h2,h3⟩:=ziM (P:=P) (t:=t) (m:=m) (hp:=hp) (ad:=ad) (R:=fun u a=>∃ d,a=.d d∧RD w S T u d) (fun u a ⟨d,e,h⟩=>by subst e;exact h) (fun k a hk=>by
    simp only [asD,List.getElem?_map,Option.map_eq_some_iff] at hk
    obtain ⟨d,hd,rfl⟩:=hk
    obtain ⟨_,u,hu,hr⟩:=hc k d hd
    exact ⟨u,hu,d,rfl,hr⟩) h
  exact ⟨h1,r,h2,h3⟩
 ·cases h
end
end Ovi
namespace Ovi
open Go Go.RowKit
def Fz (hp hp':Hp):Prop:=∀ id,hp' id=hp id∨(∃ e sz n xs q,hp id=some (.arr e sz n xs q)∧hp' id=some (.frz sz n xs))∨∃ e sz n xs q q',hp id=some (.arr e sz n xs q)∧hp' id=some (.arr e sz n xs q')
def Frozen (hp:Hp):AV→Prop
 | .own id n=>∃ sz xs,hp id=some (.frz sz n xs)
 | _=>True
theorem Fz.refl (hp:Hp):Fz hp hp:=fun _=>.inl rfl
theorem Fz.trans {a b c:Hp} (h:Fz a b) (k:Fz b c):Fz a c:=by
 intro id
 rcases h id with h | ⟨e,sz,n,xs,q,h1,h2⟩ | ⟨e,sz,n,xs,q,q',h1,h2⟩
 ·rw [← h];exact k id
 ·rcases k id with k | ⟨e',sz',n',xs',q',k1,k2⟩ | ⟨e',sz',n',xs',q',q'',k1,k2⟩
  ·exact .inr (.inl ⟨e,sz,n,xs,q,h1,k.trans h2⟩)
  ·rw [h2] at k1;cases k1
  ·rw [h2] at k1;cases k1
 ·rcases k id with k | ⟨e',sz',n',xs',q2,k1,k2⟩ | ⟨e',sz',n',xs',q2,q'',k1,k2⟩
  ·exact .inr (.inr ⟨e,sz,n,xs,q,q',h1,k.trans h2⟩)
  ·rw [h2] at k1;cases k1;exact .inr (.inl ⟨e,sz,n,xs,q,h1,k2⟩)
  ·rw [h2] at k1;cases k1;exact .inr (.inr ⟨e,sz,n,xs,q,q'',h1,k2⟩)
theorem Fz.frozen {hp hp':Hp} (h:Fz hp hp') {a:AV} (ha:Frozen hp a):Frozen hp' a:=by
 cases a<;>try exact True.intro
 rename_i id n
 obtain ⟨sz,xs,hx⟩:=ha
 rcases h id with h | ⟨e,sz',n',xs',q,h1,h2⟩ | ⟨e,sz',n',xs',q,q',h1,h2⟩
 ·exact ⟨sz,xs,h.trans hx⟩
 ·rw [hx] at h1;cases h1
 ·rw [hx] at h1;cases h1
section
variable {P:Program} {call:zi} {base:Nat} {w0 w:World} {S0 S T:Nat→Prop} {hp hp':Hp} {l l':Log} {m:MapM}
theorem zce (hI:Inv base w0 w S0 S T hp m) {a:AV} {u:Unit} (h:(freeze a).run call hp l=some (u,hp',l')) :
  ∃ S',Step base w0 w w S0 S S' T hp hp' m m∧Fz hp hp'∧Frozen hp' a∧(∀ k,S' k→S k∨∃ id n,a=.own id n∧hot (hp id)=true∧m id=some k)∧(∀ id n,a=.own id n→hot (hp id)=true→∀ k,m id=some k→S' k) ∧
   ∀ G,Cl base w S T hp m G→Cl base w S' T hp' m G:=by
 unfold freeze at h
 split at h
 ·obtain ⟨b,h1,l1,hb,g⟩:=bind_some h
  obtain ⟨hid,rfl⟩:=zae hb
  clear h
  split at g
  ·obtain ⟨hm,k⟩:=zB g
   clear g
   obtain rfl:=zC hm
   rename_i id _ e sz m' xs q
   simp only [putB,HA.run,Option.some.injEq,Prod.mk.injEq] at k
   obtain ⟨_,rfl,_⟩:=k
   obtain ⟨h3,h4⟩:=hI.freeze hid
   refine ⟨_,⟨h3,fun _ h=>.inl h,Nat.le_refl _,h4⟩,fun i=>?_,⟨sz,xs,zr _ _ _⟩,fun k hk=>?_,fun id' n' he ho k hk=>?_,fun G hG=>?_⟩
   ·by_cases hi:i=id
    ·subst hi;exact .inr (.inl ⟨e,sz,m',xs,q,hid,zr _ _ _⟩)
    ·exact .inl (zA hi)
   ·rcases hk with hk | hk
    ·exact .inl hk
    ·exact .inr ⟨id,m',rfl,by rw [hid];rfl,hk⟩
   ·cases he;exact .inr hk
   ·refine hG.mono (Stab.refl _ _) (fun _ h=>.inl h) fun i e' sz' ver' xs' d lo cv b cur h1 h2 h3 h4=>?_
    have hi:i≠id:=fun e=>by rw [e,zr] at h1;cases h1
    rw [zA hi] at h1
    exact ⟨ver',d,lo,cv,h1,Nat.le_refl _,Nat.le_refl _,h3,h4⟩
  ·obtain ⟨hm,k⟩:=zB g
   clear g
   obtain rfl:=zC hm
   obtain ⟨_,rfl⟩:=ze k
   exact ⟨S,Step.refl hI,Fz.refl _,⟨_,_,hid⟩,fun _ h=>.inl h,fun id' n' he ho=>(by cases he;rw [hid] at ho;cases ho),fun _ h=>h⟩
  ·cases g
 ·rename_i hne
  obtain ⟨_,rfl⟩:=ze h
  exact ⟨S,Step.refl hI,Fz.refl _,(by
   cases a<;>first | exact True.intro | exact absurd rfl (hne _ _)),fun _ h=>.inl h,fun id' n' he=>absurd he (hne _ _),fun _ h=>h⟩
theorem zhx:∀ {asv:List AV} {S:Nat→Prop} {hp:Hp} {l:Log} {u:Unit},Inv base w0 w S0 S T hp m→(zii asv).run call hp l=some (u,hp',l') →
  ∃ S',Step base w0 w w S0 S S' T hp hp' m m∧Fz hp hp'∧∀ a∈asv,Frozen hp' a
 | [],S,hp,l,u,hI,h=>by
  obtain ⟨_,rfl⟩:=ze h
  exact ⟨S,Step.refl hI,Fz.refl _,fun a h=>by cases h⟩
 | a::r,S,hp,l,u,hI,h=>by
  obtain ⟨b,h1,l1,ha,g⟩:=bind_some h
  obtain ⟨S1,s1,f1,z1,_⟩:=zce hI ha
  obtain ⟨S2,s2,f2,z2⟩:=zhx s1.inv g
  exact ⟨S2,s1.trans s2,f1.trans f2,fun x hx=>by
   rcases List.mem_cons.1 hx with rfl | hx
   ·exact f2.frozen z1
   ·exact z2 x hx⟩
theorem zeZ {a:AV} {d:D} (h:(zcM a).run call hp l=some (d,hp',l')) :
  hp'=hp∧d.isFn=false∧∀ hp1,Fz hp hp1→Frozen hp1 a→∀ w S T m v,leafC w S T hp1 m v a→RD w S T v d:=by
 unfold zcM at h
 split at h
 ·cases h
 ·rename_i x hne
  obtain ⟨rfl,rfl⟩:=ze h
  exact ⟨rfl,by cases d<;>first | rfl | exact absurd rfl (hne _ _),fun _ _ _ _ _ _ _ _ h=>h⟩
 ·obtain ⟨rfl,rfl⟩:=ze h
  exact ⟨rfl,rfl,fun _ _ _ _ _ _ _ _ h=>h.1⟩
 ·obtain ⟨rfl,rfl⟩:=ze h
  exact ⟨rfl,rfl,fun _ _ _ _ _ _ _ _ h=>h.1⟩
 ·obtain ⟨rfl,rfl⟩:=ze h
  exact ⟨rfl,rfl,fun _ _ _ w S T m v ⟨A,hv⟩=>by
   subst hv
   exact .list A 0 _ [] (fun _ _=>undef) (by simp) (fun i x hx=>by simp at hx) (fun i c x hx=>by simp [zk] at hx) (fun i c x hx=>by simp [zk] at hx) (fun i c x hx=>by simp [zk] at hx)⟩
 ·obtain ⟨b,h1,l1,hb,g⟩:=bind_some h
  obtain ⟨hid,rfl⟩:=zae hb
  clear h
  split at g
  ·obtain ⟨hm,k⟩:=zB g
   clear g
   obtain rfl:=zC hm
   obtain ⟨rfl,rfl⟩:=ze k
   refine ⟨rfl,rfl,fun hp1 hf hz w S T m v hl=>?_⟩
   obtain ⟨sz',xs',hz⟩:=hz
   rcases hf _ with hf | ⟨e,sz,n,xs,q,h1,h2⟩ | ⟨e,sz,n,xs,q,q',h1,h2⟩
   ·rw [hz,hid] at hf;cases hf
   ·rw [hid] at h1
    cases h1
    simp only [leafC,h2] at hl
    exact hl.2 trivial
   ·rw [hz] at h2;cases h2
  ·obtain ⟨hm,k⟩:=zB g
   clear g
   obtain rfl:=zC hm
   obtain ⟨rfl,rfl⟩:=ze k
   refine ⟨rfl,rfl,fun hp1 hf hz w S T m v hl=>?_⟩
   rcases hf _ with hf | ⟨e,sz,n,xs,q,h1,h2⟩ | ⟨e,sz,n,xs,q,q',h1,h2⟩
   ·rw [hid] at hf
    simp only [leafC,hf] at hl
    exact hl.2 trivial
   ·rw [hid] at h1
    cases h1
   ·rw [hid] at h1
    cases h1
  ·cases g
 ·cases h
def leO (n:Nat):Option Nat→Prop
 | none=>True
 | some k=>n≤k
theorem zkN {n:Nat} {a b:Option Nat} (h:leO n (minO a b)):leO n a∧leO n b:=by
 cases a with
 | none=>exact ⟨True.intro,h⟩
 | some a=>cases b with
  | none=>exact ⟨h,True.intro⟩
  | some b =>
   have h:n≤Nat.min a b:=h
   exact ⟨Nat.le_trans h (Nat.min_le_left _ _),Nat.le_trans h (Nat.min_le_right _ _)⟩
theorem zoV (hI:Inv base w0 w S0 S T hp m) {G:Nat→Nat→Nat→Nat→Prop} (hG:Cl base w S T hp m G) {id e sz ver:Nat} {xs:Rows} {q:Cm} (hid:hp id=some (.arr e sz ver xs q)) {v:Value} (ho:OwnC w (m id) e sz v xs.length) {n:Nat} (hn:leO n (ownQ q)) :
  Fo n w v (.list sz xs) (fun k=>m id=some k∨∃ i c,q.2.1=0∧G id i c k):=by
 cases n with
 | zero=>exact True.intro
 | succ n =>
  cases hm:m id with
  | none =>
   rw [hm] at ho
   obtain ⟨h1,A,rfl⟩:=ho
   exact .inl (List.eq_nil_of_length_eq_zero h1)
  | some b =>
   rw [hm] at ho
   obtain ⟨cap,cur,rfl,h1,h2,h3,h4⟩:=ho
   obtain ⟨_,_,h7⟩:=hI.rng id b (by rw [hid];rfl) hm
   obtain ⟨_,h5⟩:=hI.arr id e sz ver xs q hid
   rw [hm] at h5
   obtain ⟨cur',hc',_,h6⟩:=h5
   rw [h1] at hc'
   cases hc'
   refine .inr ⟨b,cap,cur,e,fun i c k=>q.2.1=0∧G id i c k,rfl,h1,h2,h3,h4,.inl rfl,fun i c k hk=>⟨.inr ⟨i,c,hk⟩,fun he=>h7 (he▸(hG.gs id i c k hk.2).1)⟩,fun i c i' c' k h h'=>(hG.gd _ _ _ _ _ _ _ h.2 h'.2).2,fun i c y hy=>?_⟩
   cases n with
   | zero =>
    obtain ⟨_,u,hu,_⟩:=h6 i c y hy
    exact ⟨u,hu,True.intro⟩
   | succ n =>
    obtain ⟨d,lo,cv⟩:=q
    cases lo with
    | succ lo =>
     have:n+1+1≤1:=hn
     omega
    | zero =>
     have hn:n+1+1≤d+1:=hn
     obtain ⟨u,hu,hf⟩:=hG.gf id e sz ver xs d 0 cv b cur hid (by omega) hm h1 i c y (Nat.zero_le _) hy
     exact ⟨u,hu,Fo.stab (fun _ _=>rfl) (fun k hk=>⟨rfl,hk⟩) (hf.down (by omega))⟩
structure Got (base:Nat) (w:World) (S S' T:Nat→Prop) (hp':Hp) (m:MapM) (G G':Nat→Nat→Nat→Nat→Prop) (B:Nat→Prop):Prop where
 cl:Cl base w S' T hp' m G'
 sub:∀ id i c k,G' id i c k→G id i c k
 inS:∀ k,B k→S' k∧base≤k∧¬ T k
 off:∀ k,B k→∀ id i c,¬ G' id i c k
 whence:∀ k,B k→¬ S k∨∃ id i c,G id i c k
theorem Got.none {S':Nat→Prop} {G:Nat→Nat→Nat→Nat→Prop} (h:Cl base w S' T hp' m G):Got base w S S' T hp' m G G fun _=>False :=
 ⟨h,fun _ _ _ _ h=>h,fun k h=>h.elim,fun k h=>h.elim,fun k h=>h.elim⟩
theorem znm (hI:Inv base w0 w S0 S T hp m) {a:AV} {o:Option Nat} {x:D} {hp1 hp2 hp3:Hp} {l1 l2 l3:Log} {uu:Unit} (h1:(zjh a).run call hp l=some (o,hp1,l1)) (h2:(zcM a).run call hp1 l1=some (x,hp2,l2)) (h3:(freeze a).run call hp2 l2=some (uu,hp3,l3)) :
  ∃ S',Step base w0 w w S0 S S' T hp hp3 m m∧Fz hp hp3∧x.isFn=false∧(∀ u,leafC w S T hp m u a→RD w S' T u x) ∧
   ∀ G,Cl base w S T hp m G→∃ G' B,Got base w S S' T hp3 m G G' B∧∀ u n,leafC w S T hp m u a→leO n o→Fo n w u x B:=by
 obtain ⟨rfl,q1,q2⟩:=zeZ h2
 have plain:hp2=hp→(∀ u n,leafC w S T hp m u a→leO n o→Fo n w u x fun _=>False)→∃ S',Step base w0 w w S0 S S' T hp hp3 m m∧Fz hp hp3∧x.isFn=false∧(∀ u,leafC w S T hp m u a→RD w S' T u x) ∧
   ∀ G,Cl base w S T hp m G→∃ G' B,Got base w S S' T hp3 m G G' B∧∀ u n,leafC w S T hp m u a→leO n o→Fo n w u x B:=by
  intro e hf
  subst e
  obtain ⟨S',s1,f1,z1,n1,n2,c1⟩:=zce hI h3
  exact ⟨S',s1,f1,q1,fun u hu=>q2 _ f1 z1 _ _ _ _ _ (s1.ext _ _ hu),fun G hG=>⟨G,fun _=>False,Got.none (c1 G hG),hf⟩⟩
 have zero:o=some 0→∀ (u:Value) (n:Nat),leafC w S T hp m u a→leO n o→Fo n w u x fun _=>False:=by
  intro e u n _ hn
  subst e
  have hn:n≤0:=hn
  obtain rfl:n=0:=by omega
  exact True.intro
 cases a with
 | own id n =>
  simp only [zjh] at h1
  obtain ⟨b,h4,l4,hb,g⟩:=bind_some h1
  obtain ⟨hid,rfl⟩:=zae hb
  split at g
  ·rename_i e sz m' xs q
   cases hmn:Nat.beq m' n with
   | false =>
    rw [hmn] at g
    obtain ⟨rfl,e2⟩:=ze g
    exact plain e2 (zero rfl)
   | true =>
    rw [hmn] at g
    obtain ⟨rfl,e2⟩:=ze g
    subst e2
    obtain rfl:=zC hmn
    obtain ⟨S',s1,f1,z1,n1,n2,c1⟩:=zce hI h3
    have hhot:hot (hp2 id)=true:=by rw [hid];rfl
    obtain ⟨sz',xs',hz⟩:=z1
    have hx:x=.list sz xs:=by
     simp only [zcM] at h2
     obtain ⟨b',h5,l5,hb',g'⟩:=bind_some h2
     obtain ⟨hid',rfl⟩:=zae hb'
     rw [hid] at hid'
     cases hid'
     simp only [Nat.beq_refl,cond_true] at g'
     exact (ze g').1
    subst hx
    refine ⟨S',s1,f1,q1,fun u hu=>q2 _ f1 ⟨sz',xs',hz⟩ _ _ _ _ _ (s1.ext _ _ hu),fun G hG=>⟨fun i j c k=>G i j c k∧i≠id,fun k=>m id=some k∨∃ i c,q.2.1=0∧G id i c k,⟨?_,fun _ _ _ _ h=>h.1,fun k hk=>?_,fun k hk i j c hg=>?_,fun k hk=>?_⟩,fun u n hu hn=>zoV hI hG hid (zbN (AC.leaf hu) hid) hn⟩⟩
    ·have:=c1 G hG
     refine { gs:=fun i j c k hk=>this.gs i j c k hk.1,gd:=fun i j c i' j' c' k h h'=>this.gd i j c i' j' c' k h.1 h'.1,gf:=fun i e' sz' ver xs' d lo cv b cur k1 k2 k3 k4 j c x k5 k6=>?_ }
     obtain ⟨u,hu,hf⟩:=this.gf i e' sz' ver xs' d lo cv b cur k1 k2 k3 k4 j c x k5 k6
     have hi:i≠id:=fun e=>by rw [e,hz] at k1;cases k1
     exact ⟨u,hu,Fo.stab (fun _ _=>rfl) (fun k hk=>⟨hk,hi⟩) hf⟩
    ·rcases hk with hk | ⟨i,c,_,hk⟩
     ·exact ⟨n2 id _ rfl hhot k hk,(hI.rng id k hhot hk).1,hI.hotT hhot hk⟩
     ·exact ⟨s1.sub k (hG.gs _ _ _ _ hk).1,(hG.gs _ _ _ _ hk).2⟩
    ·rcases hk with hk | ⟨i',c',_,hk⟩
     ·exact (hI.rng id k hhot hk).2.2 (hG.gs _ _ _ _ hg.1).1
     ·exact hg.2 (hG.gd _ _ _ _ _ _ _ hg.1 hk).1
    ·rcases hk with hk | ⟨i,c,_,hk⟩
     ·exact .inl (hI.rng id k hhot hk).2.2
     ·exact .inr ⟨_,_,_,hk⟩
  ·obtain ⟨rfl,e2⟩:=ze g
   exact plain e2 (zero rfl)
 | pv sz l id n cv i =>
  simp only [zjh] at h1
  obtain ⟨b,h4,l4,hb,g⟩:=bind_some h1
  obtain ⟨hid,rfl⟩:=zae hb
  split at g
  ·rename_i e sz' m' xs q
   cases hmn:Nat.beq m' n with
   | false =>
    rw [hmn] at g
    obtain ⟨rfl,e2⟩:=ze g
    exact plain e2 (zero rfl)
   | true =>
    rw [hmn] at g
    obtain rfl:=zC hmn
    obtain ⟨d,lo,cv'⟩:=q
    cases d with
    | zero =>
     obtain ⟨rfl,e2⟩:=ze g
     exact plain e2 (zero rfl)
    | succ d =>
     simp only [cond_true,pvB] at g
     cases hcv:Nat.beq cv' cv with
     | false =>
      rw [hcv] at g
      obtain ⟨rfl,e2⟩:=ze g
      exact plain e2 (zero rfl)
     | true =>
      rw [hcv] at g
      simp only [cond_true,HA.run] at g
      cases hlo:Nat.ble lo i with
      | false =>
       rw [hlo] at g
       obtain ⟨rfl,e2⟩:=ze (call:=call) (hp:=h4) (l:=l4) g
       exact plain e2 (zero rfl)
      | true =>
       rw [hlo] at g
       obtain rfl:=zC hcv
       have hlo:=Nat.le_of_ble_eq_true hlo
       simp only [cond_true] at g
       obtain ⟨_,h5,l5,hput,g2⟩:=bind_some g
       simp only [putB,HA.run,Option.some.injEq,Prod.mk.injEq] at hput
       obtain ⟨_,rfl,_⟩:=hput
       obtain ⟨rfl,e2⟩:=ze g2
       subst e2
       obtain ⟨_,e3⟩:=ze (show (HA.ret ()).run call _ l2=some (uu,hp3,l3) from h3)
       subst e3
       obtain ⟨rfl,_⟩:=ze (show (HA.ret (D.list sz l)).run call _ l1=some (x,_,l2) from h2)
       have hcl:∀ G,Cl base w S T h4 m G→Cl base w S T (updH h4 id (some (.arr e sz' m' xs (d+1,i+1,cv')))) m fun i' j c k=>G i' j c k∧¬ (i'=id∧j=i):=by
        intro G hG
        refine { gs:=fun i j c k hk=>hG.gs i j c k hk.1,gd:=fun i j c i' j' c' k h h'=>hG.gd i j c i' j' c' k h.1 h'.1,gf:=fun i' e' s' ver xs' d' lo' cv b cur k1 k2 k3 k4 j c x k5 k6=>?_ }
        by_cases hi:i'=id
        ·subst hi
         rw [zr] at k1
         simp only [Option.some.injEq,Blk.arr.injEq,Prod.mk.injEq] at k1
         obtain ⟨rfl,rfl,rfl,rfl,rfl,rfl,rfl⟩:=k1
         obtain ⟨u,hu,hf⟩:=hG.gf _ _ _ _ _ _ _ _ b cur hid k2 k3 k4 j c x (by omega) k6
         exact ⟨u,hu,Fo.stab (fun _ _=>rfl) (fun k hk=>⟨hk,fun he=>by omega⟩) hf⟩
        ·rw [zA hi] at k1
         obtain ⟨u,hu,hf⟩:=hG.gf i' e' s' ver xs' d' lo' cv b cur k1 k2 k3 k4 j c x k5 k6
         exact ⟨u,hu,Fo.stab (fun _ _=>rfl) (fun k hk=>⟨hk,fun he=>hi he.1⟩) hf⟩
       obtain ⟨r1,r2⟩:=hI.setQ (q':=(d+1,i+1,cv')) hid (fun _=>⟨Nat.succ_pos _,rfl⟩) (let ⟨G,hG⟩:=hI.cl;⟨_,hcl G hG⟩)
       refine ⟨S,⟨r1,fun _ h=>h,Nat.le_refl _,r2⟩,fun j=>?_,rfl,fun u hu=>hu.1,fun G hG=>⟨_,fun k=>∃ c,G id i c k,⟨hcl G hG,fun _ _ _ _ h=>h.1,fun k ⟨c,hk⟩=>hG.gs _ _ _ _ hk,fun k ⟨c,hk⟩ i' j c' hg=>?_,fun k ⟨c,hk⟩=>.inr ⟨_,_,_,hk⟩⟩,fun u n hu hn=>?_⟩⟩
       ·by_cases hj:j=id
        ·subst hj;exact .inr (.inr ⟨_,_,_,_,_,_,hid,zr _ _ _⟩)
        ·exact .inl (zA hj)
       ·obtain ⟨e1,e2,_⟩:=hG.gd _ _ _ _ _ _ _ hg.1 hk
        exact hg.2 ⟨e1,e2⟩
       ·have hpv:=hu.2
        rw [hid] at hpv
        obtain ⟨b,cur,c,s',p1,p2,p3,p4,p5⟩:=(hpv.2 rfl (Nat.succ_pos _)).2 rfl
        rcases p5 with rfl | rfl
        ·cases n with
         | zero=>exact True.intro
         | succ n=>exact .inl rfl
        ·obtain ⟨u',hu',hf⟩:=hG.gf _ _ _ _ _ _ _ _ b cur hid (Nat.succ_pos _) p1 p2 i c _ hlo p4
         rw [p3] at hu'
         cases hu'
         exact Fo.stab (fun _ _=>rfl) (fun k hk=>⟨c,hk⟩) (hf.down hn)
  ·obtain ⟨rfl,e2⟩:=ze g
   exact plain e2 (zero rfl)
 | nil s =>
  obtain ⟨rfl,e2⟩:=ze h1
  obtain ⟨rfl,_⟩:=ze (show (HA.ret (D.list s [])).run call _ l1=some (x,_,l2) from h2)
  exact plain e2 fun u n _ _=>by
   cases n with
   | zero=>exact True.intro
   | succ n=>exact .inl rfl
 | d y =>
  cases y with
  | list s l =>
   obtain ⟨rfl,e2⟩:=ze h1
   exact plain e2 (zero rfl)
  | fn f c=>cases h2
  | int k z =>
   obtain ⟨rfl,e2⟩:=ze h1
   obtain ⟨rfl,_⟩:=ze (show (HA.ret (D.int k z)).run call _ l1=some (x,_,l2) from h2)
   exact plain e2 fun u n _ _=>by cases n<;>exact True.intro
  | bool z =>
   obtain ⟨rfl,e2⟩:=ze h1
   obtain ⟨rfl,_⟩:=ze (show (HA.ret (D.bool z)).run call _ l1=some (x,_,l2) from h2)
   exact plain e2 fun u n _ _=>by cases n<;>exact True.intro
  | str z =>
   obtain ⟨rfl,e2⟩:=ze h1
   obtain ⟨rfl,_⟩:=ze (show (HA.ret (D.str z)).run call _ l1=some (x,_,l2) from h2)
   exact plain e2 fun u n _ _=>by cases n<;>exact True.intro
 | s sz l =>
  obtain ⟨rfl,e2⟩:=ze h1
  exact plain e2 (zero rfl)
 | _=>cases h2
structure Gots (base:Nat) (w:World) (S S' T:Nat→Prop) (hp':Hp) (m:MapM) (G G':Nat→Nat→Nat→Nat→Prop) (R:Nat→Nat→Prop):Prop where
 cl:Cl base w S' T hp' m G'
 sub:∀ id i c k,G' id i c k→G id i c k
 inS:∀ j k,R j k→S' k∧base≤k∧¬ T k
 off:∀ j k,R j k→∀ id i c,¬ G' id i c k
 one:∀ j j' k,R j k→R j' k→j=j'
 whence:∀ j k,R j k→¬ S k∨∃ id i c,G id i c k
theorem zin:∀ {asv:List AV} {ds:List D} {o:Option Nat} {S:Nat→Prop} {hp hp':Hp} {l l':Log},Inv base w0 w S0 S T hp m→(nest asv).run call hp l=some ((ds,o),hp',l') →
  ∃ S',Step base w0 w w S0 S S' T hp hp' m m∧Fz hp hp'∧ds.length=asv.length∧(∀ vs,Leaves (leafC w S T hp m) vs asv→∀ (j:Nat) d,ds[j]? = some d→d.isFn=false∧∃ u,vs[j]? = some u∧RD w S' T u d) ∧
   ∀ G,Cl base w S T hp m G→∃ G' R,Gots base w S S' T hp' m G G' R∧∀ vs,Leaves (leafC w S T hp m) vs asv→∀ (j:Nat) d u n,ds[j]? = some d→vs[j]? = some u→leO n o→Fo n w u d (R j)
 | [],ds,o,S,hp,hp',l,l',hI,h=>by
  obtain ⟨e,rfl⟩:=ze h
  cases e
  exact ⟨S,Step.refl hI,Fz.refl _,rfl,fun vs _ j d h=>by simp at h,fun G hG=>⟨G,fun _ _=>False,⟨hG,fun _ _ _ _ h=>h,fun _ _ h=>h.elim,fun _ _ h=>h.elim,fun _ _ _ h=>h.elim,fun _ _ h=>h.elim⟩,fun vs _ j d u n h=>by simp at h⟩⟩
 | a::r,ds,o,S,hp,hp',l,l',hI,h=>by
  obtain ⟨c,h1,l1,hc,g⟩:=bind_some h
  obtain ⟨x,h2,l2,hx,g⟩:=bind_some g
  obtain ⟨_,h3,l3,hf,g⟩:=bind_some g
  obtain ⟨⟨ys,o'⟩,h4,l4,hr,g⟩:=bind_some g
  obtain ⟨e,rfl⟩:=ze g
  simp only [Prod.mk.injEq] at e
  obtain ⟨rfl,rfl⟩:=e
  obtain ⟨S1,s1,f1,p1,p2,p3⟩:=znm hI hc hx hf
  obtain ⟨S2,s2,f2,n2,k2,c2⟩:=zin s1.inv hr
  have tail:∀ {vs:Array Value},Leaves (leafC w S T hp m) vs (a::r)→Leaves (leafC w S1 T h3 m) (vs.extract 1 vs.size) r:=by
   intro vs hv
   have h0:=hv.1
   simp only [List.length_cons] at h0
   refine ⟨by simp;omega,fun j b hb=>?_⟩
   obtain ⟨q,hq,ha⟩:=hv.2 (j+1) b (by simpa using hb)
   have hj:=(Array.getElem?_eq_some_iff.1 hq).1
   exact ⟨q,by rw [Array.getElem?_extract,if_pos (by omega),Nat.add_comm 1 j];exact hq,s1.ext _ _ ha⟩
  have at1:∀ {vs:Array Value} {j:Nat} {u:Value},Leaves (leafC w S T hp m) vs (a::r)→(vs[j+1]? = some u↔(vs.extract 1 vs.size)[j]? = some u):=by
   intro vs j u hv
   rw [Array.getElem?_extract]
   by_cases hj:j < vs.size - 1
   ·rw [if_pos (by omega),Nat.add_comm 1 j]
   ·rw [if_neg (by omega),Array.getElem?_eq_none (by omega)]
  refine ⟨S2,s1.trans s2,f1.trans f2,by simp [n2],fun vs hv j d hj=>?_,fun G hG=>?_⟩
  ·cases j with
   | zero =>
    simp only [List.getElem?_cons_zero,Option.some.injEq] at hj
    subst hj
    obtain ⟨u,hu,hl⟩:=hv.2 0 a rfl
    exact ⟨p1,u,hu,(p2 u hl).mono (Stab.refl _ _) (Stab.refl _ _) s2.sub fun _ h=>h⟩
   | succ j =>
    obtain ⟨q3,u,hu,hrd⟩:=k2 _ (tail hv) j d (by simpa using hj)
    exact ⟨q3,u,(at1 hv).2 hu,hrd⟩
  ·obtain ⟨G1,B,g1,fo1⟩:=p3 G hG
   obtain ⟨G2,R,g2,fo2⟩:=c2 G1 g1.cl
   refine ⟨G2,fun j=>match j with | 0=>B | j+1=>R j,⟨g2.cl,fun id i c k h=>g1.sub _ _ _ _ (g2.sub _ _ _ _ h),fun j k hk=>?_,fun j k hk id i c hg=>?_,fun j j' k h h'=>?_,fun j k hk=>?_⟩,fun vs hv j d u n hd hu hn=>?_⟩
   ·cases j with
    | zero=>exact ⟨s2.sub k (g1.inS k hk).1,(g1.inS k hk).2⟩
    | succ j=>exact g2.inS j k hk
   ·cases j with
    | zero=>exact g1.off k hk id i c (g2.sub _ _ _ _ hg)
    | succ j=>exact g2.off j k hk id i c hg
   ·have apart:∀ j k,B k→R j k→False:=fun j k hb hr=>by
     rcases g2.whence j k hr with h | ⟨id,i,c,h⟩
     ·exact h (g1.inS k hb).1
     ·exact g1.off k hb id i c h
    cases j with
    | zero=>cases j' with
     | zero=>rfl
     | succ j'=>exact (apart _ _ h h').elim
    | succ j=>cases j' with
     | zero=>exact (apart _ _ h' h).elim
     | succ j'=>rw [g2.one j j' k h h']
   ·cases j with
    | zero=>exact g1.whence k hk
    | succ j =>
     rcases g2.whence j k hk with h | ⟨id,i,c,h⟩
     ·exact .inl fun hs=>h (s1.sub k hs)
     ·exact .inr ⟨id,i,c,g1.sub _ _ _ _ h⟩
   ·obtain ⟨m1,m2⟩:=zkN hn
    cases j with
    | zero =>
     simp only [List.getElem?_cons_zero,Option.some.injEq] at hd
     subst hd
     obtain ⟨u',hu',hl⟩:=hv.2 0 a rfl
     rw [hu] at hu'
     cases hu'
     exact fo1 u n hl m1
    | succ j=>exact fo2 _ (tail hv) j d u n (by simpa using hd) ((at1 hv).1 hu) m2
end
end Ovi
namespace Ovi
open Go Go.RowKit
def RowAt (w:World) (S T:Nat→Prop) (v:Value) (sz:Nat) (xs:Rows):Prop :=
 ∃ A cap,v=.slice A xs.length cap∧(∀ (i:Nat) (x:List D),xs[i]? = some x→x.length=sz) ∧
  ∀ i c x,zk xs i c=some x→x.isFn=false∧∃ ad u,A=some ad∧w.cell? (ad.add (i * sz+c))=some u∧RD w S T u x
section
variable {P:Program} {call:zi} {base:Nat} {w0 w:World} {S0 S T:Nat→Prop} {hp hp':Hp} {l l':Log} {m:MapM} {v:Value} {t:TypeId}
theorem RD.rowAt {sz:Nat} {xs:Rows} (h:RD w S T v (.list sz xs)):RowAt w S T v sz xs:=by
 cases h with
 | list A cap _ _ g h1 h3 h4 h5 h6 =>
  refine ⟨A,cap,rfl,h3,fun i c x hx=>⟨h6 i c x hx,?_⟩⟩
  obtain ⟨ad,e,_,hc⟩:=h4 i c x hx
  exact ⟨ad,_,e,hc,h5 i c x hx⟩
theorem Inv.rowAt (hI:Inv base w0 w S0 S T hp m) {id e sz ver:Nat} {xs:Rows} {q:Cm} (hid:hp id=some (.arr e sz ver xs q)) (ho:OwnC w (m id) e sz v xs.length):RowAt w S T v sz xs:=by
 obtain ⟨h1,h2⟩:=hI.arr id e sz ver xs q hid
 cases hm:m id with
 | none =>
  rw [hm] at h2 ho
  subst h2
  obtain ⟨_,A,rfl⟩:=ho
  exact ⟨A,0,rfl,h1,fun i c x hx=>by simp [zk] at hx⟩
 | some b =>
  rw [hm] at h2 ho
  obtain ⟨cap,cur,rfl,hc,h3,h4,h5⟩:=ho
  obtain ⟨cur',hc',h6,h7⟩:=h2
  rw [hc] at hc'
  cases hc'
  refine ⟨_,cap,rfl,h1,fun i c x hx=>?_⟩
  obtain ⟨h8,u,hu,hr⟩:=h7 i c x hx
  refine ⟨h8,_,u,rfl,?_,hr⟩
  rw [add_at]
  simp only [World.cell?, hc,Nat.zero_add]
  exact hu
theorem zmr (hI:Inv base w0 w S0 S T hp m) {sz:Nat} {y:AV} {ys:Rows} (hy:AC w S T hp m v y) (h:(zeE sz y).run call hp l=some (ys,hp',l')):hp'=hp∧RowAt w S T v sz ys:=by
 unfold zeE at h
 split at h
 ·obtain ⟨rfl,rfl⟩:=ze h
  obtain ⟨A,rfl⟩:=hy
  exact ⟨rfl,A,0,rfl,fun i x hx=>by simp at hx,fun i c x hx=>by simp [zk] at hx⟩
 ·obtain ⟨hs,h⟩:=zB h
  obtain ⟨rfl,rfl⟩:=ze h
  obtain rfl:=zC hs
  exact ⟨rfl,RD.rowAt hy⟩
 ·obtain ⟨b,h1,l1,hb,g⟩:=bind_some h
  obtain ⟨hid,rfl⟩:=zae hb
  clear h
  split at g
  ·obtain ⟨hm,k⟩:=zB g
   clear g
   simp only [Bool.and_eq_true] at hm
   obtain rfl:=zC hm.1
   obtain rfl:=zC hm.2
   obtain ⟨rfl,rfl⟩:=ze k
   exact ⟨rfl,hI.rowAt hid (zbN hy hid)⟩
  ·obtain ⟨hm,k⟩:=zB g
   clear g
   simp only [Bool.and_eq_true] at hm
   obtain rfl:=zC hm.1
   obtain rfl:=zC hm.2
   obtain ⟨rfl,rfl⟩:=ze k
   exact ⟨rfl,(zgf hy hid).rowAt⟩
  ·cases g
 ·cases h
theorem zav {xs:Rows} {i c:Nat} {x:D} (h:zk xs i c=some x):∃ r,xs[i]? = some r∧r[c]? = some x:=by
 simpa [zk,Option.bind_eq_some_iff] using h
theorem zhq {i c sz:Nat} (hc:c < sz):(i * sz+c) / sz=i∧(i * sz+c) % sz=c:=by
 constructor
 ·rw [Nat.mul_comm,Nat.mul_add_div (by omega),Nat.div_eq_of_lt hc,Nat.add_zero]
 ·rw [Nat.mul_comm,Nat.mul_add_mod,Nat.mod_eq_of_lt hc]
theorem RowAt.news {sz:Nat} {ys:Rows} (h:RowAt w S T v sz ys) (hz:0 < sz) (hy:ys≠[]) :
  ∃ ad cap,∃ news:List Value,v=.slice (some ad) ys.length cap∧news.length=ys.length * sz∧(∀ (j:Nat) u,news[j]? = some u→w.cell? (ad.add j)=some u)∧(∀ u:Value,u∈news→u.oneCell'=true) ∧
   ∀ i c x,zk ys i c=some x→x.isFn=false∧∃ u,news[i * sz+c]? = some u∧RD w S T u x:=by
 obtain ⟨A,cap,rfl,h1,h2⟩:=h
 have hex:∀ p:Nat × Nat,∃ u:Value,∀ x,zk ys p.1 p.2=some x→x.isFn=false∧∃ ad,A=some ad∧w.cell? (ad.add (p.1 * sz+p.2))=some u∧RD w S T u x:=by
  rintro ⟨i,c⟩
  cases hx:zk ys i c with
  | none=>exact ⟨undef,fun x hx=>by cases hx⟩
  | some x =>
   obtain ⟨h0,ad,u,ha,hu,hr⟩:=h2 i c x hx
   exact ⟨u,fun y hy=>by injection hy with hy;subst hy;exact ⟨h0,ad,ha,hu,hr⟩⟩
 obtain ⟨g,hg⟩:=Classical.axiomOfChoice hex
 have full:∀ i c,i < ys.length→c < sz→∃ x,zk ys i c=some x:=by
  intro i c hi hc
  have hl:=h1 i _ (List.getElem?_eq_getElem hi)
  exact ⟨ys[i][c]'(by omega),by simp [zk,hi]⟩
 have hlen:0 < ys.length:=by cases ys with | nil=>exact absurd rfl hy | cons=>simp
 obtain ⟨x0,hx0⟩:=full 0 0 hlen hz
 obtain ⟨_,ad,ha,_⟩:=hg (0,0) x0 hx0
 subst ha
 have cellj:∀ j,j < ys.length * sz→∃ x,zk ys (j / sz) (j % sz)=some x:=fun j hj=>full _ _ (Nat.div_lt_of_lt_mul (by rw [Nat.mul_comm];exact hj)) (Nat.mod_lt _ hz)
 refine ⟨ad,cap,(List.range (ys.length * sz)).map fun j=>g (j / sz,j % sz),rfl,by simp,fun j u hj=>?_,fun u hu=>?_,fun i c x hx=>?_⟩
 ·simp only [List.getElem?_map,Option.map_eq_some_iff,List.getElem?_eq_some_iff] at hj
  obtain ⟨k,⟨hk,rfl⟩,rfl⟩:=hj
  simp only [List.getElem_range,List.length_range] at hk ⊢
  obtain ⟨x,hx⟩:=cellj j hk
  obtain ⟨_,ad',ha,hu,_⟩:=hg (j / sz,j % sz) x hx
  cases ha
  have:j / sz * sz+j % sz=j:=by rw [Nat.mul_comm];exact Nat.div_add_mod j sz
  simpa only [this] using hu
 ·simp only [List.mem_map,List.mem_range] at hu
  obtain ⟨j,hj,rfl⟩:=hu
  obtain ⟨x,hx⟩:=cellj j hj
  obtain ⟨_,ad',_,_,hr⟩:=hg (j / sz,j % sz) x hx
  exact zeJ (hp:=fun _=>none) (m:=fun _=>none) (x:=.d _) hr
 ·obtain ⟨r,hr,hrc⟩:=zav hx
  have hi:i < ys.length:=(List.getElem?_eq_some_iff.1 hr).1
  have hc:c < sz:=by have:=h1 i r hr;have:=(List.getElem?_eq_some_iff.1 hrc).1;omega
  obtain ⟨h0,ad',_,_,hrd⟩:=hg (i,c) x hx
  refine ⟨h0,g (i,c),?_,hrd⟩
  have hlt:i * sz+c < ys.length * sz:=by
   have:(i+1) * sz≤ys.length * sz:=Nat.mul_le_mul_right _ hi
   rw [Nat.add_mul] at this
   omega
  simp [hlt,(zhq hc).1,(zhq hc).2]
theorem zfn {xs ys:Rows} {i c:Nat} {x:D} (h:zk (xs++ys) i c=some x):(i < xs.length∧zk xs i c=some x)∨(xs.length≤i∧zk ys (i - xs.length) c=some x):=by
 unfold zk at h ⊢
 by_cases hi:i < xs.length
 ·rw [List.getElem?_append_left hi] at h;exact .inl ⟨hi,h⟩
 ·rw [List.getElem?_append_right (by omega)] at h;exact .inr ⟨by omega,h⟩
end
end Ovi
namespace Ovi
open Go Go.RowKit
section
variable {P:Program} {call:zi} {base:Nat} {w0 w:World} {S0 S T:Nat→Prop} {hp hp':Hp} {l l':Log} {m:MapM} {v u:Value} {t e:TypeId}
theorem zhb (h:zgm P e=true):∃ i z,P.info? e=some i∧i.zero=some z∧z.cells.size=i.size∧1≤i.size∧i.bytes≤128:=by
 unfold zgm at h
 split at h
 ·rename_i i hi
  split at h
  ·rename_i z hz
   simp only [Bool.and_eq_true] at h
   exact ⟨i,z,hi,hz,zC h.1.1,Nat.le_of_ble_eq_true h.1.2,Nat.le_of_ble_eq_true h.2⟩
  ·cases h
 ·cases h
theorem zkG {n:Nat} (h:fits n=true):n≤1099511627776:=of_decide_eq_true h
theorem zcw (ty:TypeId) {i:TypeInfo} (ht:P.underlying t=some (.slice e)) (hi:P.info? e=some i) (A B:Option Addr) (n cap c:Nat) (hn:n≤cap) :
  (Builtin.append_ #[t,t] ty #[.slice A n cap,.slice B 0 c]).run P w=.ok (.slice A n cap) w:=by
 have h0:(Builtin.firstCells i.size 0 (.slice B 0 c)).run P w=.ok #[] w:=by
  cases B with
  | none=>rfl
  | some b=>simp [Builtin.firstCells,loadCells,loadCellsFrom]
 cases A with
 | none=>simp [Builtin.append_,run_underlying ht,Go.sizeOf,typeInfo,hi,Builtin.lenOf,hn,h0]
 | some a=>simp [Builtin.append_,run_underlying ht,Go.sizeOf,typeInfo,hi,Builtin.lenOf,hn,h0,storeCells]
theorem zdG (ty:TypeId) {i:TypeInfo} {z:Value} (ht:P.underlying t=some (.slice e)) (hi:P.info? e=some i) (hz:i.zero=some z) (A:Option Addr) (a:Addr) (n c:Nat) (news:List Value) (hl:news.length=n * i.size)
  (hnews:∀ (j:Nat) v,news[j]? = some v→w.cell? (a.add j)=some v) (h0:0 < n) (h63:n≤1099511627776) (hb:i.bytes≤128) :
  (Builtin.append_ #[t,t] ty #[.slice A 0 0,.slice (some a) n c]).run P w =
   .ok (.slice (some ⟨w.heap.size,0,none⟩) n (grownCap w n 0 e)) (w.drew.alloc (.cells (news.toArray++Builtin.zeroCells z.cells (grownCap w n 0 e - n)) e)):=by
 have hb2:n * i.bytes≤140737488355328:=by
  have h1:n * i.bytes≤n * 128:=Nat.mul_le_mul_left _ hb
  omega
 cases A with
 | none=>exact run_append_nil (P:=P) w t ty e i z ht hi hz a n c news hl hnews h0 (by omega) (by omega)
 | some b =>
  have:=run_append_grow (P:=P) w t ty e i z ht hi hz b 0 0 [] (by simp) (fun j v h=>by simp at h) a n c news hl hnews (by omega) (by omega) (by rw [Nat.zero_add,nextslicecap_zero h0];omega)
  simpa using this
theorem zke {sz:Nat} {xs ys:Rows} (h1:∀ (i:Nat) (x:List D),xs[i]? = some x→x.length=sz) (h2:∀ (i:Nat) (x:List D),ys[i]? = some x→x.length=sz):∀ (i:Nat) (x:List D),(xs++ys)[i]? = some x→x.length=sz:=by
 intro i x hx
 by_cases hi:i < xs.length
 ·rw [List.getElem?_append_left hi] at hx;exact h1 i x hx
 ·rw [List.getElem?_append_right (by omega)] at hx;exact h2 _ x hx
theorem RowAt.shape {sz:Nat} {ys:Rows} (h:RowAt w S T u sz ys):∀ (i:Nat) (x:List D),ys[i]? = some x→x.length=sz:=by
 obtain ⟨_,_,_,h,_⟩:=h;exact h
theorem RowAt.val {sz:Nat} {ys:Rows} (h:RowAt w S T u sz ys):∃ A cap,u=.slice A ys.length cap:=by
 obtain ⟨A,c,h,_⟩:=h;exact ⟨A,c,h⟩
theorem zky (hI:Inv base w0 w S0 S T hp m) {tgt sz:Nat} {q q':Cm} {y:AV} {ys:Rows} {l0 l1:Log} {hp1:Hp} (hy:AC w S T hp m u y) (he:(zeE sz y).run call hp l0=some (ys,hp1,l1)) (h:(addQ tgt q y).run call hp l=some (q',hp',l')) :
  Step base w0 w w S0 S S T hp hp' m m∧hp' tgt=hp tgt∧(0 < q'.1→q'.1≤q.1∧q'.2=q.2) ∧
   ∃ G R,Cl base w S T hp' m G∧Rsv base S T G R∧∀ ad cap,u=.slice (some ad) ys.length cap→0 < q'.1→∀ i c x uu,zk ys i c=some x→w.cell? (ad.add (i * sz+c))=some uu→Fo q'.1 w uu x (R i c):=by
 have none:hp'=hp→q'.1=0→Step base w0 w w S0 S S T hp hp' m m∧hp' tgt=hp tgt∧(0 < q'.1→q'.1≤q.1∧q'.2=q.2) ∧
   ∃ G R,Cl base w S T hp' m G∧Rsv base S T G R∧∀ ad cap,u=.slice (some ad) ys.length cap→0 < q'.1→∀ i c x uu,zk ys i c=some x→w.cell? (ad.add (i * sz+c))=some uu→Fo q'.1 w uu x (R i c):=by
  intro e1 e2
  subst e1
  obtain ⟨G,hG⟩:=hI.cl
  exact ⟨Step.refl hI,rfl,fun h=>by omega,G,_,hG,Rsv.none,fun _ _ _ h=>by omega⟩
 have give:∀ {a:AV},(zmV tgt a q).run call hp l=some (q',hp',l')→a=y→Step base w0 w w S0 S S T hp hp' m m∧hp' tgt=hp tgt∧(0 < q'.1→q'.1≤q.1∧q'.2=q.2) ∧
   ∃ G R,Cl base w S T hp' m G∧Rsv base S T G R∧∀ ad cap,u=.slice (some ad) ys.length cap→0 < q'.1→∀ i c x uu,zk ys i c=some x→w.cell? (ad.add (i * sz+c))=some uu→Fo q'.1 w uu x (R i c):=by
  intro a hh ha
  subst ha
  clear h
  obtain ⟨d,lo,cv⟩:=q
  cases d with
  | zero =>
   obtain ⟨rfl,e⟩:=ze hh
   exact none e rfl
  | succ d =>
   obtain ⟨x,h1,l1',hx,g⟩:=bind_some hh
   obtain ⟨rfl,e⟩:=ze g
   have zero:∀ {x:Cm},h1=hp→x.1=0→hp'=hp∧(Nat.min (d+1) x.1)=0:=fun e1 e2=>⟨e.trans e1,by rw [e2];exact Nat.min_eq_right (Nat.zero_le _)⟩
   cases a with
   | own id n =>
    simp only [zm3] at hx
    cases hit:Nat.beq id tgt with
    | true =>
     rw [hit] at hx
     obtain ⟨rfl,e1⟩:=ze hx
     obtain ⟨z1,z2⟩:=zero (x:=(0,0,0)) e1 rfl
     exact none z1 z2
    | false =>
     rw [hit] at hx
     have hne:id≠tgt:=fun e=>by rw [e] at hit;simp at hit
     obtain ⟨blk,h2,l2,hb,g1⟩:=bind_some hx
     obtain ⟨hid,rfl⟩:=zae hb
     split at g1
     ·rename_i e1 sz' m' xs qx
      cases hmn:Nat.beq m' n with
      | false =>
       rw [hmn] at g1
       obtain ⟨rfl,e1⟩:=ze g1
       obtain ⟨z1,z2⟩:=zero (x:=(0,0,0)) e1 rfl
       exact none z1 z2
      | true =>
       rw [hmn] at g1
       obtain rfl:=zC hmn
       obtain ⟨dx,lox,cvx⟩:=qx
       match dx,lox,hid,g1 with
       | 0,lox,hid,g1 =>
        obtain ⟨rfl,e1⟩:=ze g1
        obtain ⟨z1,z2⟩:=zero (x:=(0,0,0)) e1 rfl
        exact none z1 z2
       | dx+1,lox+1,hid,g1 =>
        obtain ⟨rfl,e1⟩:=ze g1
        obtain ⟨z1,z2⟩:=zero (x:=(0,0,0)) e1 rfl
        exact none z1 z2
       | dx+1,0,hid,g1 =>
        simp only [cond_true,zm2] at g1
        obtain ⟨_,h3,l3,hput,g2⟩:=bind_some g1
        simp only [putB,HA.run,Option.some.injEq,Prod.mk.injEq] at hput
        obtain ⟨_,hput,_⟩:=hput
        obtain ⟨rfl,e2⟩:=ze g2
        have hys:ys=xs∧sz'=sz:=by
         simp only [zeE] at he
         obtain ⟨blk',h5,l5,hb',g'⟩:=bind_some he
         obtain ⟨hid',rfl⟩:=zae hb'
         rw [hid] at hid'
         cases hid'
         obtain ⟨hc,g'⟩:=zB g'
         simp only [Bool.and_eq_true] at hc
         exact ⟨(ze g').1,zC hc.2⟩
        obtain ⟨rfl,rfl⟩:=hys
        have hcl:∀ G,Cl base w S T h2 m G→Cl base w S T (updH h2 id (some (.arr e1 sz' m' ys (0,0,0)))) m fun i j c k=>G i j c k∧i≠id:=by
         intro G hG
         refine { gs:=fun i j c k hk=>hG.gs i j c k hk.1,gd:=fun i j c i' j' c' k h h'=>hG.gd i j c i' j' c' k h.1 h'.1,gf:=fun i' e' s' ver xs' d' lo' cv b cur k1 k2 k3 k4 j c x k5 k6=>?_ }
         have hi:i'≠id:=fun he=>by
          rw [he,zr] at k1
          simp only [Option.some.injEq,Blk.arr.injEq,Prod.mk.injEq] at k1
          omega
         rw [zA hi] at k1
         obtain ⟨u,hu,hf⟩:=hG.gf i' e' s' ver xs' d' lo' cv b cur k1 k2 k3 k4 j c x k5 k6
         exact ⟨u,hu,Fo.stab (fun _ _=>rfl) (fun k hk=>⟨hk,hi⟩) hf⟩
        obtain ⟨G,hG⟩:=hI.cl
        obtain ⟨r1,r2⟩:=hI.setQ (q':=(0,0,0)) hid (fun h=>absurd h (Nat.lt_irrefl 0)) ⟨_,hcl G hG⟩
        have hp'e:hp'=updH h2 id (some (.arr e1 sz' m' ys (0,0,0))):=by rw [e,e2,hput]
        rw [hp'e]
        refine ⟨⟨r1,fun _ h=>h,Nat.le_refl _,r2⟩,zA (Ne.symm hne),fun _=>⟨Nat.min_le_left _ _,rfl⟩,_,fun i c k=>G id i c k,hcl G hG,⟨fun i c k hk=>hG.gs _ _ _ _ hk,fun i c k hk j i' c' hg=>hg.2 (hG.gd _ _ _ _ _ _ _ hg.1 hk).1,fun i c i' c' k h h'=>(hG.gd _ _ _ _ _ _ _ h h').2⟩,fun ad cap hu hpos i c x uu hx hcell=>?_⟩
        have ho:=zbN hy hid
        cases hm:m id with
        | none =>
         obtain ⟨_,h7⟩:=hI.arr _ _ _ _ _ _ hid
         rw [hm] at h7
         subst h7
         simp [zk] at hx
        | some b =>
         rw [hm] at ho
         obtain ⟨cap',cur,hu',o1,o2,o3,o4⟩:=ho
         rw [hu] at hu'
         simp only [Value.slice.injEq,Option.some.injEq] at hu'
         obtain ⟨rfl,_,_⟩:=hu'
         rw [add_at] at hcell
         simp only [World.cell?, o1,Nat.zero_add] at hcell
         obtain ⟨u',hu',hf⟩:=hG.gf _ _ _ _ _ _ _ _ b cur hid (Nat.succ_pos _) hm o1 i c x (Nat.zero_le _) hx
         have hcell:cur[i * sz'+c]? = some uu:=by simpa using hcell
         rw [hcell] at hu'
         cases hu'
         exact hf.down (Nat.min_le_right _ _)
     ·obtain ⟨rfl,e1⟩:=ze g1
      obtain ⟨z1,z2⟩:=zero (x:=(0,0,0)) e1 rfl
      exact none z1 z2
   | _ =>
    obtain ⟨rfl,e1⟩:=ze hx
    obtain ⟨z1,z2⟩:=zero (x:=(0,0,0)) e1 rfl
    exact none z1 z2
 cases y with
 | nil s =>
  obtain ⟨rfl,e1⟩:=ze h
  obtain ⟨rfl,_⟩:=ze he
  subst e1
  obtain ⟨G,hG⟩:=hI.cl
  exact ⟨Step.refl hI,rfl,fun _=>⟨Nat.le_refl _,rfl⟩,G,_,hG,Rsv.none,fun _ _ _ _ i c x _ hx=>by simp [zk] at hx⟩
 | d _=>exact give h rfl
 | pv _ _ _ _ _ _=>exact give h rfl
 | s _ _=>exact give h rfl
 | own _ _=>exact give h rfl
 | var _ _=>exact give h rfl
 | el _ _ _ _=>exact give h rfl
 | imm _ _ _=>exact give h rfl
 | cap _ _=>exact give h rfl
 | fn _ _=>exact give h rfl
 | agg _=>exact give h rfl
 | tup _=>exact give h rfl
theorem zk0 {nid:Nat} {s y x:AV} {ty:TypeId} (hI:Inv base w0 w S0 S T hp m) (hs:AC w S T hp m v s) (hy:AC w S T hp m u y) (h:(zib P t nid s y).run call hp l=some (x,hp',l')) :
  ∃ r w' m',(Builtin.append_ #[t,t] ty #[v,u]).run P w=.ok r w'∧Step base w0 w w' S0 S S T hp hp' m m'∧leafC w' S T hp' m' r x:=by
 unfold zib at h
 split at h
 ·cases h
 rename_i e he
 have ht:=zbB he
 obtain ⟨hr,h⟩:=zB h
 obtain ⟨i,z,hi,hz,hzs,h1,hb⟩:=zhb hr
 obtain ⟨ys,h2,l2,hys,g⟩:=bind_some h
 clear h
 obtain ⟨rfl,hR⟩:=zmr hI hy hys
 have hsz:=zet hi
 rw [hsz] at hR g hys
 have hmul:∀ n,n≤1099511627776→n * i.bytes≤140737488355328:=fun n hn=>by
  have h1:n * i.bytes≤n * 128:=Nat.mul_le_mul_left _ hb
  omega
 split at g
 ·
  obtain ⟨A,rfl⟩:=hs
  obtain ⟨_,h3,l3,hff,g1⟩:=bind_some g
  obtain ⟨hf0,rfl⟩:=zcV hff
  have hf:=zkG hf0
  obtain ⟨q',hp2,lq,hadd,g1⟩:=bind_some g1
  obtain ⟨s1,_,hq,G,R,hG,hR2,hFo⟩:=zky hI hy hys hadd
  obtain ⟨_,h4,l4,hn,g2⟩:=bind_some g1
  obtain ⟨rfl,rfl⟩:=ze g2
  clear g g1 g2 hff
  simp only [newB,HA.run] at hn
  split at hn
  ·rename_i hid
   simp only [HA.run,Option.some.injEq,Prod.mk.injEq] at hn
   obtain ⟨_,rfl,_⟩:=hn
   by_cases hy0:ys=[]
   ·subst hy0
    obtain ⟨B,c,rfl⟩:=hR.val
    obtain ⟨q1,q2⟩:=s1.inv.newNil hid e i.size 0 q'
    refine ⟨_,w,_,zcw ty ht hi A B 0 0 c (Nat.le_refl _),s1.trans ⟨q1,fun _ h=>h,Nat.le_refl _,q2⟩,?_⟩
    simp only [leafC,zr,zH]
    exact ⟨rfl,Nat.le_refl _,fun _=>⟨rfl,A,rfl⟩⟩
   ·obtain ⟨ad,cap,news,rfl,n1,n2,n3,n4⟩:=hR.news (by omega) hy0
    have hlen:0 < ys.length:=by cases ys with | nil=>exact absurd rfl hy0 | cons=>simp
    have hrun:=zdG (P:=P) (w:=w) ty ht hi hz A ad ys.length cap news n1 n2 hlen hf hb
    have hge:=grownCap_ge w ys.length 0 e
    have hsize:(news.toArray++Builtin.zeroCells z.cells (grownCap w ys.length 0 e - ys.length)).size=grownCap w ys.length 0 e * i.size:=by
     simp only [Array.size_append,List.size_toArray,size_zeroCells,hzs,n1,← Nat.add_mul]
     congr 1
     omega
    have hst:Stab S w (w.drew.alloc (.cells (news.toArray++Builtin.zeroCells z.cells (grownCap w ys.length 0 e - ys.length)) e)):=fun k hk=>heap_alloc_old w.drew _ k (hI.slt k hk)
    obtain ⟨q1,q2⟩:=s1.inv.regrow (q':=q') (hcl:=hG.grow (n:=0) hR2 hst (fun i b _ ho hm=>heap_alloc_old w.drew _ b (s1.inv.rng i b ho hm).2.1) (fun e1 sz1 ver1 xs1 d lo cv b cur h1 h2 h3 h4 i1 c x _ hx=>by
     cases h1
     cases h3
     have h4:=(heap_alloc_new w.drew _).symm.trans h4
     cases h4
     obtain ⟨_,u,hu,_⟩:=n4 i1 c x hx
     have hlt:=(List.getElem?_eq_some_iff.1 hu).1
     refine ⟨u,?_,.inr ⟨Nat.zero_le _,hFo ad cap rfl h2 i1 c x u hx (n2 _ _ hu)⟩⟩
     rw [Array.getElem?_append_left (by simpa using hlt)]
     simpa using hu)) (id:=nid) (e:=e) (sz:=i.size) (ver':=0) (xs':=ys) (row:=none) (mo':=some w.heap.size) (w':=w.drew.alloc (.cells (news.toArray++Builtin.zeroCells z.cells (grownCap w ys.length 0 e - ys.length)) e)) (.inl ⟨hid,rfl⟩)
     ⟨rfl,rfl,rfl,by simp,fun k hk _=>heap_alloc_old w.drew _ k hk⟩ hR.shape
     (.inr ⟨w.heap.size,_,rfl,.inr ⟨Nat.le_refl _,by simp⟩,heap_alloc_new w.drew _,by rw [hsize];exact Nat.mul_le_mul_right _ hge,fun j k d hd=>by
      obtain ⟨h0,u,hu,hr⟩:=n4 j k d hd
      refine ⟨h0,u,?_,hr⟩
      have:=(List.getElem?_eq_some_iff.1 hu).1
      rw [Array.getElem?_append_left (by simpa using this)]
      simpa using hu⟩)
    refine ⟨_,_,_,hrun,s1.trans ⟨q1,fun _ h=>h,by simp,q2⟩,?_⟩
    simp only [leafC,zr,zH]
    exact ⟨rfl,Nat.le_refl _,fun _=>⟨_,_,rfl,heap_alloc_new w.drew _,hge,grownCap_le_maxLen w _ 0 e (by simp only [maxLen];omega),hsize⟩⟩
  ·cases hn
 ·
  obtain ⟨b,h3,l3,hb3,g1⟩:=bind_some g
  obtain ⟨hid,rfl⟩:=zae hb3
  clear hb3 g
  split at g1
  ·obtain ⟨hc,k⟩:=zB g1
   clear g1
   simp only [Bool.and_eq_true] at hc
   obtain ⟨⟨c1,c2⟩,c3⟩:=hc
   obtain rfl:=zC c1
   obtain rfl:=zC c2
   obtain rfl:=zC c3
   obtain ⟨_,h4,l4,hff,k1⟩:=bind_some k
   obtain ⟨hf0,rfl⟩:=zcV hff
   have hf:=zkG hf0
   obtain ⟨q',hp2,lq,hadd,k1⟩:=bind_some k1
   obtain ⟨s1,htgt,hq,G,R,hG,hR2,hFo⟩:=zky hI hy hys hadd
   obtain ⟨_,h5,l5,hp5,k2⟩:=bind_some k1
   obtain ⟨rfl,rfl⟩:=ze k2
   clear k k1 k2 hff
   simp only [putB,HA.run,Option.some.injEq,Prod.mk.injEq] at hp5
   obtain ⟨_,rfl,_⟩:=hp5
   clear c1 c2 c3 hf0
   rename_i id _ e' ver xs q0 _ _ _ _
   have ho:=zbN hs hid
   have hid2:=htgt.trans hid
   obtain ⟨a1,a2⟩:=hI.arr _ _ _ _ _ _ hid
   have hsh:=zke a1 hR.shape
   have hver:ver < ver+1:=Nat.lt_succ_self _
   cases hm:m id with
   | none =>
    rw [hm] at a2 ho
    subst a2
    obtain ⟨_,A,rfl⟩:=ho
    by_cases hy0:ys=[]
    ·subst hy0
     obtain ⟨B,c,rfl⟩:=hR.val
     obtain ⟨q1,q2⟩:=s1.inv.regrow (q':=q') (hcl:=hG.grow (n:=0) hR2 (Stab.refl _ _) (fun _ _ _ _ _=>rfl) (fun _ _ _ _ _ _ _ _ _ _ _ h3=>nomatch h3)) (id:=id) (e:=e') (sz:=i.size) (ver':=ver+1) (xs':=[]) (row:=none) (mo':=none) (w':=w) (.inr ⟨ver,[],q0,hid2,hver,hm.symm⟩)
      ⟨rfl,rfl,rfl,Nat.le_refl _,fun _ _ _=>rfl⟩ (fun i x hx=>by simp at hx) (.inl ⟨rfl,rfl⟩)
     refine ⟨_,w,_,zcw ty ht hi A B 0 0 c (Nat.le_refl _),s1.trans ⟨q1,fun _ h=>h,Nat.le_refl _,q2⟩,?_⟩
     simp only [leafC,zr,zH]
     exact ⟨rfl,Nat.le_refl _,fun _=>⟨rfl,A,rfl⟩⟩
    ·obtain ⟨ad,cap,news,rfl,n1,n2,n3,n4⟩:=hR.news (by omega) hy0
     have hlen:0 < ys.length:=by cases ys with | nil=>exact absurd rfl hy0 | cons=>simp
     simp only [List.length_nil,Nat.zero_add] at hf
     have hrun:=zdG (P:=P) (w:=w) ty ht hi hz A ad ys.length cap news n1 n2 hlen hf hb
     have hge:=grownCap_ge w ys.length 0 e'
     have hsize:(news.toArray++Builtin.zeroCells z.cells (grownCap w ys.length 0 e' - ys.length)).size=grownCap w ys.length 0 e' * i.size:=by
      simp only [Array.size_append,List.size_toArray,size_zeroCells,hzs,n1,← Nat.add_mul]
      congr 1
      omega
     have hst:Stab S w (w.drew.alloc (.cells (news.toArray++Builtin.zeroCells z.cells (grownCap w ys.length 0 e' - ys.length)) e')):=fun k hk=>heap_alloc_old w.drew _ k (hI.slt k hk)
     obtain ⟨q1,q2⟩:=s1.inv.regrow (q':=q') (hcl:=hG.grow (n:=0) hR2 hst (fun i b _ ho hm=>heap_alloc_old w.drew _ b (s1.inv.rng i b ho hm).2.1) (fun e1 sz1 ver1 xs1 d lo cv b cur h1 h2 h3 h4 i1 c x _ hx=>by
      cases h1
      cases h3
      have h4:=(heap_alloc_new w.drew _).symm.trans h4
      cases h4
      obtain ⟨_,u,hu,_⟩:=n4 i1 c x hx
      have hlt:=(List.getElem?_eq_some_iff.1 hu).1
      refine ⟨u,?_,.inr ⟨Nat.zero_le _,hFo ad cap rfl h2 i1 c x u hx (n2 _ _ hu)⟩⟩
      rw [Array.getElem?_append_left (by simpa using hlt)]
      simpa using hu)) (id:=id) (e:=e') (sz:=i.size) (ver':=ver+1) (xs':=[]++ys) (row:=none) (mo':=some w.heap.size) (w':=w.drew.alloc (.cells (news.toArray++Builtin.zeroCells z.cells (grownCap w ys.length 0 e' - ys.length)) e')) (.inr ⟨ver,[],q0,hid2,hver,hm.symm⟩)
      ⟨rfl,rfl,rfl,by simp,fun k hk _=>heap_alloc_old w.drew _ k hk⟩ hsh
      (.inr ⟨w.heap.size,_,rfl,.inr ⟨Nat.le_refl _,by simp⟩,heap_alloc_new w.drew _,by rw [hsize];exact Nat.mul_le_mul_right _ hge,fun j k d hd=>by
       obtain ⟨h0,u,hu,hr⟩:=n4 j k d hd
       refine ⟨h0,u,?_,hr⟩
       have:=(List.getElem?_eq_some_iff.1 hu).1
       rw [Array.getElem?_append_left (by simpa using this)]
       simpa using hu⟩)
     refine ⟨_,_,_,hrun,s1.trans ⟨q1,fun _ h=>h,by simp,q2⟩,?_⟩
     simp only [leafC,zr,zH]
     exact ⟨rfl,Nat.le_refl _,fun _=>⟨_,_,rfl,heap_alloc_new w.drew _,hge,grownCap_le_maxLen w _ 0 e' (by simp only [maxLen];omega),hsize⟩⟩
   | some b =>
    rw [hm] at a2 ho
    obtain ⟨cap,cur,rfl,o1,o2,o3,o4⟩:=ho
    obtain ⟨cur',b1,b2,b3⟩:=a2
    rw [o1] at b1
    cases b1
    have hbb:=(hI.rng id b (by rw [hid];rfl) hm)
    have old:∀ i1 c x,0 < q'.1→q'.2.1≤i1→zk xs i1 c=some x→∃ u,cur[i1 * i.size+c]? = some u∧Fo q'.1 w u x (G id i1 c):=by
     intro i1 c x hd hlo hx
     obtain ⟨z1,z2⟩:=hq hd
     obtain ⟨d0,lo0,cv0⟩:=q0
     obtain ⟨u,hu,hf⟩:=hG.gf id e' i.size ver xs d0 lo0 cv0 b cur hid2 (Nat.lt_of_lt_of_le hd z1) hm o1 i1 c x (by rw [z2] at hlo;exact hlo) hx
     exact ⟨u,hu,hf.down z1⟩
    by_cases hy0:ys=[]
    ·subst hy0
     obtain ⟨B,c,rfl⟩:=hR.val
     obtain ⟨q1,q2⟩:=s1.inv.regrow (q':=q') (hcl:=hG.grow (n:=xs.length) hR2 (Stab.refl _ _) (fun _ _ _ _ _=>rfl) (fun e1 sz1 ver1 xs1 d lo cv b1 cur1 h1 h2 h3 h4 i1 c x hlo hx=>by
      cases h1
      cases h3
      rw [o1] at h4
      cases h4
      rw [List.append_nil] at hx
      obtain ⟨u,hu,hf⟩:=old i1 c x h2 hlo hx
      obtain ⟨r,hr1,_⟩:=zav hx
      exact ⟨u,hu,.inl ⟨(List.getElem?_eq_some_iff.1 hr1).1,hf⟩⟩)) (id:=id) (e:=e') (sz:=i.size) (ver':=ver+1) (xs':=xs++[]) (row:=some b) (mo':=some b) (w':=w) (.inr ⟨ver,xs,q0,hid2,hver,hm.symm⟩)
      ⟨rfl,rfl,rfl,Nat.le_refl _,fun _ _ _=>rfl⟩ hsh (.inr ⟨b,cur,rfl,.inl rfl,o1,by rw [List.append_nil];exact b2,by rw [List.append_nil];exact b3⟩)
     refine ⟨_,w,_,zcw ty ht hi (some _) B xs.length cap c o2,s1.trans ⟨q1,fun _ h=>h,Nat.le_refl _,q2⟩,?_⟩
     simp only [leafC,zr,zH]
     refine ⟨rfl,Nat.le_refl _,fun _=>⟨cap,cur,?_,o1,?_,o3,o4⟩⟩
     ·rw [List.append_nil]
     ·rw [List.append_nil];exact o2
    ·obtain ⟨ad,cap',news,rfl,n1,n2,n3,n4⟩:=hR.news (by omega) hy0
     have hlen:0 < ys.length:=by cases ys with | nil=>exact absurd rfl hy0 | cons=>simp
     have hfit:xs.length * i.size≤cur.size:=b2
     have own:w.ownsRow 0 e' i.size (.slice (some ⟨b,0,none⟩) xs.length cap) xs.length (cur.toList.take (xs.length * i.size)) :=
      ⟨by simp;omega,.inr ⟨b,cap,cur,rfl,Nat.zero_le _,o1,o2,o3,o4,rfl⟩⟩
     obtain ⟨v',w',hrun,own',hg,_,hat⟩:=run_append_own_at (P:=P) w 0 t ty e' i z i.size i.bytes ht hi hz rfl rfl hzs (by omega) _ _ _ own ad ys.length cap' news n1 n2 n3 (by simp only [maxLen];omega) (hmul _ hf) (Nat.zero_le _)
     obtain ⟨w1,w2⟩:=own'
     rcases w2 with ⟨_,hz0⟩ | ⟨g,capg,curg,rfl,_,g1,g2,g3,g4,g5⟩
     ·omega
     have hgb:g=b∨g=w.heap.size:=by
      simp only [Value.ownBlock,Option.some.injEq] at hat
      exact hat
     have hle:(xs.length+ys.length) * i.size≤curg.size:=by rw [g4];exact Nat.mul_le_mul_right _ g2
     have get:∀ (p:Nat) (u:Value),(cur.toList.take (xs.length * i.size)++news)[p]? = some u→curg[p]? = some u:=by
      intro p u hp
      rw [← g5] at hp
      simp only [List.getElem?_take] at hp
      split at hp
      ·simpa using hp
      ·cases hp
     have place1:∀ j k x u,j < xs.length→zk xs j k=some x→cur[j * i.size+k]? = some u→curg[j * i.size+k]? = some u:=by
      intro j k x u hj hd hu
      refine get _ _ ?_
      obtain ⟨r,hr1,hr2⟩:=zav hd
      have hk:k < i.size:=by have:=a1 j r hr1;have:=(List.getElem?_eq_some_iff.1 hr2).1;omega
      have hlt:j * i.size+k < xs.length * i.size:=by
       have:(j+1) * i.size≤xs.length * i.size:=Nat.mul_le_mul_right _ hj
       rw [Nat.add_mul] at this
       omega
      rw [List.getElem?_append_left (by simp;omega),List.getElem?_take,if_pos hlt]
      simpa using hu
     have place2:∀ j k u,xs.length≤j→news[(j - xs.length) * i.size+k]? = some u→curg[j * i.size+k]? = some u:=by
      intro j k u hj hu
      refine get _ _ ?_
      have hmul2:j * i.size=xs.length * i.size+(j - xs.length) * i.size:=by rw [← Nat.add_mul];congr 1;omega
      have hll:(cur.toList.take (xs.length * i.size)).length=xs.length * i.size:=by simp;omega
      rw [List.getElem?_append_right (by rw [hll,hmul2];omega),hll]
      rw [show j * i.size+k - xs.length * i.size=(j - xs.length) * i.size+k by omega]
      exact hu
     have hrs:∀ k,k < w.heap.size→k≠b→w'.heap[k]? = w.heap[k]? := fun k hk hne=>hg.block k hk (fun e=>hne (by cases e;rfl))
     have hst:Stab S w w':=fun k hk=>hrs k (hI.slt k hk) fun e=>hbb.2.2 (e▸hk)
     obtain ⟨q1,q2⟩:=s1.inv.regrow (q':=q') (hcl:=hG.grow (n:=xs.length) hR2 hst (fun i1 b1 hi1 ho hm1=>hrs b1 (s1.inv.rng i1 b1 ho hm1).2.1 fun e=>hi1 (s1.inv.inj i1 id b1 ho (by rw [hid2];rfl) hm1 (e▸hm))) (fun e1 sz1 ver1 xs1 d lo cv b1 cur1 h1 h2 h3 h4 i1 c x hlo hx=>by
      cases h1
      cases h3
      rw [g1] at h4
      cases h4
      rcases zfn hx with ⟨hj,hd⟩ | ⟨hj,hd⟩
      ·obtain ⟨u,hu,hf⟩:=old i1 c x h2 hlo hd
       exact ⟨u,place1 _ _ _ _ hj hd hu,.inl ⟨hj,hf⟩⟩
      ·obtain ⟨_,u,hu,_⟩:=n4 _ c x hd
       exact ⟨u,place2 _ _ _ hj hu,.inr ⟨hj,hFo ad cap' rfl h2 _ c x u hd (n2 _ _ hu)⟩⟩)) (id:=id) (e:=e') (sz:=i.size) (ver':=ver+1) (xs':=xs++ys) (row:=some b) (mo':=some g) (w':=w') (.inr ⟨ver,xs,q0,hid2,hver,hm.symm⟩)
      hg hsh (.inr ⟨g,curg,rfl,by
       rcases hgb with rfl | rfl
       ·exact .inl rfl
       ·exact .inr ⟨Nat.le_refl _,z6 g1⟩,g1,by rw [List.length_append];exact hle,fun j k d hd=>by
       rcases zfn hd with ⟨hj,hd⟩ | ⟨hj,hd⟩
       ·obtain ⟨h0,u,hu,hr⟩:=b3 j k d hd
        refine ⟨h0,u,get _ _ ?_,hr⟩
        obtain ⟨r,hr1,hr2⟩:=zav hd
        have hk:k < i.size:=by have:=a1 j r hr1;have:=(List.getElem?_eq_some_iff.1 hr2).1;omega
        have hlt:j * i.size+k < xs.length * i.size:=by
         have:(j+1) * i.size≤xs.length * i.size:=Nat.mul_le_mul_right _ hj
         rw [Nat.add_mul] at this
         omega
        rw [List.getElem?_append_left (by simp;omega),List.getElem?_take,if_pos hlt]
        simpa using hu
       ·obtain ⟨h0,u,hu,hr⟩:=n4 _ k d hd
        refine ⟨h0,u,get _ _ ?_,hr⟩
        have hmul2:j * i.size=xs.length * i.size+(j - xs.length) * i.size:=by rw [← Nat.add_mul];congr 1;omega
        have hll:(cur.toList.take (xs.length * i.size)).length=xs.length * i.size:=by simp;omega
        rw [List.getElem?_append_right (by rw [hll,hmul2];omega),hll]
        rw [show j * i.size+k - xs.length * i.size=(j - xs.length) * i.size+k by omega]
        exact hu⟩)
     refine ⟨_,w',_,hrun,s1.trans ⟨q1,fun _ h=>h,hg.size,q2⟩,?_⟩
     simp only [leafC,zr,zH]
     refine ⟨rfl,Nat.le_refl _,fun _=>⟨capg,curg,?_,g1,?_,g3,g4⟩⟩
     ·rw [List.length_append]
     ·rw [List.length_append];exact g2
  ·cases g1
 ·cases g
end
end Ovi
namespace Ovi
open Go Go.RowKit
section
variable {P:Program} {call:zi} {base:Nat} {w0 w:World} {S0 S T:Nat→Prop} {hp hp':Hp} {l l':Log} {m:MapM} {v u:Value} {t e:TypeId} {x y z:AV}
theorem CellsAt.shift {B:Nat→Prop} {f:Nat→Option D} (o:Nat) (h:CellsAt w B S T v f):∃ ad,v=.pointer (some ad)∧CellsAt w B S T (.pointer (some (ad.add o))) fun c=>f (o+c):=by
 obtain ⟨ad,rfl,h⟩:=h
 refine ⟨ad,rfl,ad.add o,rfl,fun c x hx=>?_⟩
 obtain ⟨h1,u,h2,h3⟩:=h (o+c) x hx
 exact ⟨by rw [zbA];exact h1,u,by rw [zf5];exact h2,h3⟩
theorem zk9 {f o k:Nat} (h:zdi P t f=some (o,k+1)):∃ fs g i,P.underlying t=some (.struct fs)∧fs[f]? = some g∧g.offset=o∧P.info? g.type=some i∧i.size=k+1:=by
 unfold zdi at h
 split at h
 ·rename_i fs hu
  split at h
  ·rename_i g hg
   simp only [Option.some.injEq,Prod.mk.injEq] at h
   obtain ⟨h1,h2⟩:=h
   unfold szOf at h2
   split at h2
   ·rename_i i hi
    exact ⟨fs,g,i,hu,hg,h1,hi,h2⟩
   ·cases h2
  ·cases h
 ·cases h
theorem zcK {f o k:Nat} (h:zdi P t f=some (o,k+1)) (ad:Addr):(Instr.fieldAt t (.pointer (some ad)) f).run P w=.ok (.pointer (some (ad.add o))) w:=by
 obtain ⟨fs,g,i,hu,hg,rfl,hi,hk⟩:=zk9 h
 simp [Instr.fieldAt,run_underlying hu,hg,Instr.sureAddr,fieldPlace,Go.sizeOf,typeInfo,hi,hk]
theorem zlM {f:Nat} (hx:AC w S T hp m v x) (h:(zjP P t f x).run call hp l=some (z,hp',l')) :
  hp'=hp∧∃ r,(Instr.fieldAt t v f).run P w=.ok r w∧leafC w S T hp m r z:=by
 unfold zjP at h
 split at h
 ·cases h
 ·cases h
 ·rename_i o k hf
  split at h
  ·obtain ⟨rfl,rfl⟩:=ze h
   obtain ⟨h1,b,hm,rfl⟩:=hx
   exact ⟨rfl,_,zcK hf _,h1,b,hm,by rw [add_at];rfl⟩
  ·rename_i id n i off
   obtain ⟨rfl,rfl⟩:=ze h
   have hx:leafC w S T hp' m v (.el id n i off):=hx
   simp only [leafC] at hx
   obtain ⟨⟨ad,rfl⟩,hx⟩:=hx
   refine ⟨rfl,_,zcK hf ad,?_⟩
   simp only [leafC]
   refine ⟨⟨_,rfl⟩,?_⟩
   split at hx
   ·refine ⟨hx.1,fun hv=>?_⟩
    obtain ⟨h1,b,hm,hp⟩:=hx.2 hv
    refine ⟨h1,b,hm,?_⟩
    simp only [zb0,Value.pointer.injEq,Option.some.injEq] at hp ⊢
    subst hp
    rw [add_at,Nat.add_assoc]
   ·intro hv
    obtain ⟨ad',e,hc⟩:=(hx hv).shift o
    cases e
    simpa only [Nat.add_assoc] using hc
   ·exact hx
  ·obtain ⟨rfl,rfl⟩:=ze h
   obtain ⟨ad,rfl,hc⟩:=CellsAt.shift o hx
   refine ⟨rfl,_,zcK hf ad,?_⟩
   simpa only [leafC,Nat.add_assoc] using hc
  ·obtain ⟨rfl,rfl⟩:=ze h
   obtain ⟨ad,rfl,hc⟩:=CellsAt.shift o hx
   refine ⟨rfl,_,zcK hf ad,?_⟩
   simpa only [leafC,Nat.add_assoc] using hc
  ·cases h
theorem zcF {e:TypeId} (h:Nat.ble 1 (szOf P e)=true):∃ i,P.info? e=some i∧i.size=szOf P e∧1≤szOf P e:=by
 have h:=Nat.le_of_ble_eq_true h
 unfold szOf at h ⊢
 split at h
 ·rename_i i hi;exact ⟨i,hi,rfl,h⟩
 ·omega
theorem zhF {i:Int} {n:Nat} (h:inR i n=true):0≤i∧i < n:=of_decide_eq_true h
theorem zd2 {i:TypeInfo} (ht:P.underlying t=some (.slice e)) (hi:P.info? e=some i) (ad:Addr) (n cap:Nat) (k:IntKind) (j:Int) (hj:0≤j∧j < (n:Int)) :
  (Instr.indexAt t (.slice (some ad) n cap) (.int k j)).run P w=.ok (.pointer (some (ad.add (j.toNat * i.size)))) w:=by
 simp [Instr.indexAt,asIntOf,run_underlying ht,Go.sizeOf,typeInfo,hi,hj]
theorem RD.elem {sz i:Nat} {xs:Rows} (h:RD w S T v (.list sz xs)) (hz:1≤sz) (hi:i < xs.length):∃ ad cap,v=.slice (some ad) xs.length cap∧CellsAt w S S T (.pointer (some (ad.add (i * sz)))) fun c=>zk xs i (0+c):=by
 cases h with
 | list A cap _ _ g h1 h3 h4 h5 h6 =>
  have hl:=h3 i _ (List.getElem?_eq_getElem hi)
  have h0:zk xs i 0=some (xs[i][0]'(by omega)):=by simp [zk,hi]
  obtain ⟨ad,rfl,_⟩:=h4 i 0 _ h0
  refine ⟨ad,cap,rfl,_,rfl,fun c x hx=>?_⟩
  simp only [Nat.zero_add] at hx
  obtain ⟨ad',e,hb,hc⟩:=h4 i c x hx
  cases e
  exact ⟨by rw [zbA];exact hb,_,by rw [zf5];exact hc,h5 i c x hx⟩
theorem toNat_lt {i:Int} {n:Nat} (h:0≤i∧i < (n:Int)):i.toNat < n:=by omega
theorem zlR (hx:AC w S T hp m v x) (hy:AC w S T hp m u y) (h:(zjU P t x y).run call hp l=some (z,hp',l')) :
  hp'=hp∧∃ r,(Instr.indexAt t v u).run P w=.ok r w∧leafC w S T hp m r z:=by
 unfold zjU at h
 split at h
 ·rename_i he
  have ht:=zbB he
  obtain rfl:=za6 hy
  obtain ⟨hc,g⟩:=zB h
  clear h
  simp only [Bool.and_eq_true] at hc
  obtain ⟨hc1,hc2⟩:=hc
  obtain rfl:=zC hc1
  obtain ⟨i,hi,hs,hz⟩:=zcF hc2
  obtain ⟨_,h2,l2,hmu,g1⟩:=bind_some g
  obtain ⟨hin,rfl⟩:=zcV hmu
  clear hmu
  obtain ⟨rfl,rfl⟩:=ze g1
  have hin:=zhF hin
  obtain ⟨ad,cap,rfl,hc⟩:=RD.elem hx hz (toNat_lt hin)
  exact ⟨rfl,_,zd2 ht hi _ _ _ _ _ hin,by rw [hs];exact hc⟩
 ·rename_i he
  have ht:=zbB he
  obtain rfl:=za6 hy
  obtain ⟨b,h1,l1,hb,g⟩:=bind_some h
  obtain ⟨hid,rfl⟩:=zae hb
  clear h
  split at g
  ·obtain ⟨hc,g1⟩:=zB g
   clear g
   simp only [Bool.and_eq_true] at hc
   obtain ⟨hm,hc1,hc2⟩:=hc
   obtain rfl:=zC hm
   obtain rfl:=zC hc1
   obtain ⟨i,hi,hs,hz⟩:=zcF hc2
   obtain ⟨_,h2,l2,hmu,g2⟩:=bind_some g1
   obtain ⟨hin,rfl⟩:=zcV hmu
   clear hmu
   obtain ⟨rfl,rfl⟩:=ze g2
   have hin:=zhF hin
   have hlt:=toNat_lt hin
   have ho:=zbN hx hid
   unfold OwnC at ho
   split at ho
   ·omega
   ·rename_i b hmb
    obtain ⟨cap,cur,rfl,_⟩:=ho
    refine ⟨rfl,_,zd2 ht hi _ _ _ _ _ hin,?_⟩
    simp only [leafC,hid]
    exact ⟨⟨_,rfl⟩,Nat.le_refl _,fun _=>⟨hlt,b,hmb,by rw [hs,add_at];simp [zb0]⟩⟩
  ·obtain ⟨hc,g1⟩:=zB g
   clear g
   simp only [Bool.and_eq_true] at hc
   obtain ⟨hm,hc1,hc2⟩:=hc
   obtain rfl:=zC hm
   obtain rfl:=zC hc1
   obtain ⟨i,hi,hs,hz⟩:=zcF hc2
   obtain ⟨_,h2,l2,hmu,g2⟩:=bind_some g1
   obtain ⟨hin,rfl⟩:=zcV hmu
   clear hmu
   obtain ⟨rfl,rfl⟩:=ze g2
   have hin:=zhF hin
   obtain ⟨ad,cap,rfl,hc⟩:=RD.elem (zgf hx hid) hz (toNat_lt hin)
   refine ⟨rfl,_,zd2 ht hi _ _ _ _ _ hin,?_⟩
   simp only [leafC,hid]
   exact ⟨⟨_,rfl⟩,fun _=>by rw [hs];exact hc⟩
  ·cases g
 ·cases h
theorem zfo {xs:Rows} {a n i c:Nat} {x:D} (h:zk ((xs.drop a).take n) i c=some x):zk xs (a+i) c=some x:=by
 unfold zk at h ⊢
 rw [List.getElem?_take] at h
 split at h
 ·rwa [List.getElem?_drop] at h
 ·cases h
theorem RD.cut {sz a b:Nat} {A:Option Addr} {n cap:Nat} {xs:Rows} (h:RD w S T (.slice A n cap) (.list sz xs)) (h1:a≤b) (h2:b≤xs.length) :
  RD w S T (.slice (if cap=a then A else A.map (·.add (a * sz))) (b - a) (cap - a)) (.list sz ((xs.drop a).take (b - a))):=by
 cases h with
 | list _ _ _ _ g h1' h3 h4 h5 h6 =>
  have hlen:((xs.drop a).take (b - a)).length=b - a:=by simp;omega
  have:=RD.list (w:=w) (S:=S) (T:=T) (if cap=a then A else A.map (·.add (a * sz))) (cap - a) sz ((xs.drop a).take (b - a)) (fun i c=>g (a+i) c) (by rw [hlen];omega)
   (fun i x hx=>by
    rw [List.getElem?_take] at hx
    split at hx
    ·rw [List.getElem?_drop] at hx;exact h3 _ x hx
    ·cases hx)
   (fun i c x hx=>by
    have hi:i < b - a:=by rw [← hlen];obtain ⟨r,hr,_⟩:=zav hx;exact (List.getElem?_eq_some_iff.1 hr).1
    obtain ⟨ad,e,hb,hc⟩:=h4 _ c x (zfo hx)
    subst e
    rw [if_neg (by omega)]
    refine ⟨_,rfl,by rw [zbA];exact hb,?_⟩
    rw [zf5,← hc]
    congr 2
    rw [Nat.add_mul];omega)
   (fun i c x hx=>h5 _ c x (zfo hx)) (fun i c x hx=>h6 _ c x (zfo hx))
  rwa [hlen] at this
def Bnd (lo:Option Int) (lv:Option Value):Prop:=match lo,lv with
 | none,none=>True
 | some n,some v=>∃ k,v=.int k n
 | _,_=>False
theorem zeo {lo hi:Option Int} {lv hv:Option Value} (hlo:Bnd lo lv) (hhi:Bnd hi hv) (isS:Bool) {n cap:Nat} (hn:n≤cap) {α:Type} {xs ys:List α} (hl:xs.length=n) (h:(cutA lo hi xs).run call hp l=some (ys,hp',l')) :
  hp'=hp∧∃ a b,a≤b∧b≤n∧ys=(xs.drop a).take (b - a)∧(Instr.sliceBounds isS n cap lv hv none).run P w=.ok (a,b,cap) w:=by
 unfold cutA at h
 split at h
 ·rename_i p q
  cases lv<;>cases hv<;>first | exact hlo.elim | exact hhi.elim | skip
  obtain ⟨k,rfl⟩:=hlo
  obtain ⟨k',rfl⟩:=hhi
  obtain ⟨hb,h⟩:=zbD h
  obtain ⟨rfl,rfl⟩:=ze h
  simp only [inS,decide_eq_true_eq] at hb
  refine ⟨rfl,p.toNat,q.toNat,by omega,by omega,rfl,?_⟩
  simp only [Instr.sliceBounds,Sem.run_bind,Sem.run_pure,Result.andThen_ok,Option.isSome_none,if_false,Bool.false_eq_true]
  rw [run_sliceBound _ _ _ _ _ (by omega) (by omega)]
  simp only [Result.andThen_ok]
  rw [run_sliceBound _ _ _ _ _ (by omega) (by omega)]
  rfl
 ·rename_i p
  cases lv<;>cases hv<;>first | exact hlo.elim | exact hhi.elim | skip
  obtain ⟨k,rfl⟩:=hlo
  obtain ⟨hb,h⟩:=zbD h
  obtain ⟨rfl,rfl⟩:=ze h
  simp only [inS,decide_eq_true_eq] at hb
  refine ⟨rfl,p.toNat,n,by omega,Nat.le_refl _,by rw [List.take_of_length_le (by simp;omega)],?_⟩
  simp only [Instr.sliceBounds,Sem.run_bind,Sem.run_pure,Result.andThen_ok]
  rw [run_sliceBound _ _ _ _ _ (by omega) (by omega)]
  rfl
 ·rename_i q
  cases lv<;>cases hv<;>first | exact hlo.elim | exact hhi.elim | skip
  obtain ⟨k,rfl⟩:=hhi
  obtain ⟨hb,h⟩:=zbD h
  obtain ⟨rfl,rfl⟩:=ze h
  simp only [inS,decide_eq_true_eq] at hb
  refine ⟨rfl,0,q.toNat,by omega,by omega,by simp,?_⟩
  simp only [Instr.sliceBounds,Sem.run_bind,Sem.run_pure,Result.andThen_ok]
  rw [run_sliceBound _ _ _ _ _ (by omega) (by omega)]
  rfl
 ·cases lv<;>cases hv<;>first | exact hlo.elim | exact hhi.elim | skip
  obtain ⟨rfl,rfl⟩:=ze h
  refine ⟨rfl,0,n,by omega,Nat.le_refl _,by simp [← hl],?_⟩
  rfl
theorem RD.slice' {sz:Nat} {xs:Rows} (h:RD w S T v (.list sz xs)):∃ A cap,v=.slice A xs.length cap∧xs.length≤cap:=by cases h;exact ⟨_,_,rfl,by assumption⟩
theorem zgS {lo hi:Option Int} {lv hv:Option Value} {sz:Nat} {xs:Rows} (hlo:Bnd lo lv) (hhi:Bnd hi hv) {e:TypeId} {ys:Rows} (he:P.underlying t=some (.slice e)) (hs:∃ i,P.info? e=some i) (hz:sz=szOf P e)
  (hx:RD w S T v (.list sz xs)) (h:(cutA lo hi xs).run call hp l=some (ys,hp',l')) :
  hp'=hp∧∃ r,(Instr.sliceAt t v lv hv none).run P w=.ok r w∧RD w S T r (.list sz ys):=by
 obtain ⟨i,hi⟩:=hs
 have hz':=zet hi
 obtain ⟨A,cap,rfl,hcap⟩:=hx.slice'
 obtain ⟨rfl,a,b,h1,h2,rfl,hr⟩:=zeo (P:=P) (w:=w) hlo hhi true hcap rfl h
 refine ⟨rfl,_,?_,hx.cut h1 h2⟩
 simp only [Instr.sliceAt,Sem.run_bind,run_underlying he,Result.andThen_ok,Instr.slice,hr,zeV hi,Sem.run_pure,hz]
theorem zmd {lo hi:Option Int} {lv hv:Option Value} (hI:Inv base w0 w S0 S T hp m) (hlo:Bnd lo lv) (hhi:Bnd hi hv) (hx:AC w S T hp m v x) (h:(zkf P t lo hi x).run call hp l=some (z,hp',l')) :
  ∃ r S',(Instr.sliceAt t v lv hv none).run P w=.ok r w∧Step base w0 w w S0 S S' T hp hp' m m∧leafC w S' T hp' m r z:=by
 unfold zkf at h
 split at h
 ·split at h
  ·rename_i he
   obtain ⟨hc,g⟩:=zB h
   clear h
   simp only [Bool.and_eq_true] at hc
   obtain ⟨hc1,hc2⟩:=hc
   obtain rfl:=zC hc1
   obtain ⟨i,hi,hs,hz⟩:=zcF hc2
   obtain ⟨ys,h1,l1,hcut,g⟩:=bind_some g
   obtain ⟨rfl,rfl⟩:=ze g
   obtain ⟨rfl,r,hr,hrd⟩:=zgS (P:=P) (t:=t) hlo hhi (zbB he) ⟨i,hi⟩ rfl hx hcut
   exact ⟨r,S,hr,Step.refl hI,hrd⟩
  ·cases h
 ·split at h
  ·rename_i hu
   obtain ⟨ys,h1,l1,hcut,g⟩:=bind_some h
   obtain ⟨rfl,rfl⟩:=ze g
   obtain ⟨s,rfl,rfl⟩:=zes hx
   obtain ⟨rfl,a,b,h1,h2,rfl,hr⟩:=zeo (P:=P) (w:=w) hlo hhi false (Nat.le_refl s.size) (ze4 s) hcut
   refine ⟨.string (s.extract a b),S,?_,Step.refl hI,?_⟩
   ·simp only [Instr.sliceAt,Sem.run_bind,run_underlying hu,Result.andThen_ok,Instr.slice,Option.isSome_none,Bool.false_eq_true,if_false,hr,Sem.run_pure]
   ·have:((s.data.toList.drop a).take (b - a))=(s.extract a b).data.toList:=by simp [ByteArray.data_extract,List.extract_eq_take_drop]
    simp only [leafC]
    rw [this]
    exact .str _
  ·cases h
 ·rename_i id n
  split at h
  ·rename_i he
   obtain ⟨_,h1,l1,hf,g⟩:=bind_some h
   clear h
   obtain ⟨S',s1,f1,z1,_⟩:=zce hI hf
   obtain ⟨d,h2,l2,hd,g1⟩:=bind_some g
   clear g
   obtain ⟨rfl,_,q⟩:=zeZ hd
   have hrd:=q _ (Fz.refl _) z1 _ _ _ _ _ (s1.ext _ _ (zcD hx))
   split at g1
   ·obtain ⟨hc,g2⟩:=zB g1
    clear g1
    simp only [Bool.and_eq_true] at hc
    obtain ⟨hc1,hc2⟩:=hc
    obtain rfl:=zC hc1
    obtain ⟨i,hi,hs,hz⟩:=zcF hc2
    obtain ⟨ys,h3,l3,hcut,g⟩:=bind_some g2
    obtain ⟨rfl,rfl⟩:=ze g
    obtain ⟨rfl,r,hr,hrd⟩:=zgS (P:=P) (t:=t) hlo hhi (zbB he) ⟨i,hi⟩ rfl hrd hcut
    exact ⟨r,S',hr,s1,hrd⟩
   ·cases g1
  ·cases h
 ·cases h
theorem zlS {s:List UInt8} {k:IntKind} {n:Int} (ht:strT P t=true) (hx:AC w S T hp m v (.d (.str s))) (hn:inR n s.length=true) :
  (Instr.index t v (.int k n)).run P w=.ok (.int .u8 (zbe s n)) w:=by
 obtain ⟨b,rfl,rfl⟩:=zes hx
 have hn:=zhF hn
 rw [ze4] at hn
 have hlt:=toNat_lt hn
 have hg:b[n.toNat]? = some b[n.toNat]:=getElem?_pos b n.toNat hlt
 have hb:(zbe b.data.toList n)=(b[n.toNat].toNat:Int):=by
  unfold zbe
  have:b.data.toList.getD n.toNat 0=b[n.toNat]:=by
   rw [List.getD_eq_getElem?_getD,Array.getElem?_toList,Array.getElem?_eq_getElem (show n.toNat < b.data.size from hlt)]
   rfl
  rw [this]
 rw [hb]
 simp only [Instr.index,asIntOf,Sem.run_bind,Sem.run_pure,Result.andThen_ok,run_underlying (zkX ht),hn.1,if_true,hg]
end
end Ovi
namespace Ovi
open Go Go.RowKit
theorem ziF (off:Nat):∀ (vs:List Value) (k:Nat) (cells:Array Value),off+k+vs.length≤cells.size →
  ((vs.zipIdx k).foldl (fun (cs:Array Value) (x:Value × Nat)=>cs.setIfInBounds (off+x.2) x.1) cells).size=cells.size ∧
  ∀ p:Nat,((vs.zipIdx k).foldl (fun (cs:Array Value) (x:Value × Nat)=>cs.setIfInBounds (off+x.2) x.1) cells)[p]? = if off+k≤p∧p < off+k+vs.length then vs[p - (off+k)]? else cells[p]?
 | [],k,cells,h=>⟨rfl,fun p=>by rw [if_neg (fun ⟨a,b⟩=>by simp only [List.length_nil] at b;omega)];rfl⟩
 | v::r,k,cells,h=>by
  simp only [List.zipIdx_cons,List.foldl_cons]
  simp only [List.length_cons] at h
  obtain ⟨h1,h2⟩:=ziF off r (k+1) (cells.setIfInBounds (off+k) v) (by simp;omega)
  refine ⟨by rw [h1];simp,fun p=>?_⟩
  rw [h2 p]
  simp only [List.length_cons]
  by_cases hp:p=off+k
  ·subst hp
   rw [if_neg (by omega),if_pos (by omega),Array.getElem?_setIfInBounds_self_of_lt (by omega)]
   simp
  ·rw [Array.getElem?_setIfInBounds_ne (Ne.symm hp)]
   by_cases hq:off+k≤p∧p < off+k+(r.length+1)
   ·rw [if_pos (by omega),if_pos hq]
    have:p - (off+k)=(p - (off+(k+1)))+1:=by omega
    rw [this,List.getElem?_cons_succ]
   ·rw [if_neg (by omega),if_neg hq]
theorem ze1 {α:Type} {cs vs:List α} {off:Nat} (h:off+vs.length≤cs.length) (p:Nat):(zaN cs off vs)[p]? = if off≤p∧p < off+vs.length then vs[p - off]? else cs[p]? := by
 unfold zaN
 have hl:(cs.take off).length=off:=by simp;omega
 by_cases h1:p < off
 ·rw [if_neg (by omega),List.append_assoc,List.getElem?_append_left (by omega),List.getElem?_take,if_pos h1]
 ·by_cases h2:p < off+vs.length
  ·rw [if_pos (by omega),List.append_assoc,List.getElem?_append_right (by omega),hl,List.getElem?_append_left (by omega)]
  ·rw [if_neg (by omega),List.getElem?_append_right (by simp;omega),List.getElem?_drop]
   congr 1
   simp
   omega
theorem zcZ {α:Type} {cs vs:List α} {off:Nat} (h:off+vs.length≤cs.length):(zaN cs off vs).length=cs.length:=by
 simp [zaN]
 omega
theorem ziC {place:Nat→Option (Nat × Nat)} {cells:Array Value} {i off size:Nat} {v:Value} {rest:List (Nat × Value)} (hp:place i=some (off,size)) (hs:v.cells.size=size) (hf:off+size≤cells.size) :
  ∃ cells',Instr.fill place cells ((i,v)::rest)=Instr.fill place cells' rest∧cells'.size=cells.size∧∀ p:Nat,cells'[p]? = if off≤p∧p < off+size then v.cells[p - off]? else cells[p]? := by
 subst hs
 obtain ⟨h1,h2⟩:=ziF off v.cells.toList 0 cells (by simpa using hf)
 refine ⟨_,?_,h1,fun p=>by simpa using h2 p⟩
 conv=>lhs;unfold Instr.fill
 rw [hp]
 simp only []
 rw [if_neg (by simp;omega)]
 congr 1
 rw [← Array.foldl_toList,Array.toList_zipIdx]
section
variable {P:Program} {call:zi} {base:Nat} {w0 w:World} {S0 S T:Nat→Prop} {hp hp':Hp} {l l':Log} {m:MapM} {v u:Value} {t e:TypeId} {x y z:AV}
theorem ze8 {c c':Array Value} {cs vs:List AV} {off n:Nat} {v:Array Value} {R:Value→AV→Prop} (hc:Leaves R c cs) (hv:Leaves R v vs) (hn:vs.length=n) (hf:off+n≤cs.length) (hs:c'.size=c.size)
  (hg:∀ p:Nat,c'[p]? = if off≤p∧p < off+n then v[p - off]? else c[p]?):Leaves R c' (zaN cs off vs):=by
 subst hn
 refine ⟨by rw [hs,hc.1,zcZ hf],fun j a ha=>?_⟩
 rw [ze1 hf] at ha
 rw [hg j]
 split at ha
 ·rename_i hj
  rw [if_pos hj]
  exact hv.2 _ a ha
 ·rename_i hj
  rw [if_neg hj]
  exact hc.2 j a ha
theorem zlN {k:Leaf} {a:AV} (h:leafC w S T hp m v a):leafC w S T hp m v (zjT k a):=by
 unfold zjT
 split<;>exact h
theorem zgH:∀ (ks:List Leaf) (asv:List AV),(zby ks asv).length=asv.length
 | [],asv=>by simp [zby]
 | k::ks,[]=>by simp [zby]
 | k::ks,a::asv=>by simp [zby,zgH ks asv]
theorem zhv:∀ (ks:List Leaf) (asv:List AV) (j:Nat) (a:AV),(zby ks asv)[j]? = some a→∃ b,asv[j]? = some b∧∀ v,leafC w S T hp m v b→leafC w S T hp m v a
 | [],asv,j,a,h=>⟨a,by simpa [zby] using h,fun _ h=>h⟩
 | k::ks,[],j,a,h=>by simp [zby] at h
 | k::ks,b::asv,j,a,h=>by
  cases j with
  | zero =>
   simp only [zby,List.getElem?_cons_zero,Option.some.injEq] at h
   subst h
   exact ⟨b,rfl,fun v h=>zlN h⟩
  | succ j =>
   simp only [zby,List.getElem?_cons_succ] at h
   exact zhv ks asv j a h
theorem zfY {z:List AV} (h:zew P t=some z):∃ i v,P.info? t=some i∧i.zero=some v∧Leaves (leafC w S T hp m) v.cells z:=by
 unfold zew at h
 split at h
 ·rename_i i hi
  split at h
  ·rename_i v hv
   split at h
   ·rename_i a ha
    cases h
    have:=zbR (ziu (w:=w) (S:=S) (T:=T) (hp:=hp) (m:=m) ha)
    refine ⟨i,v,hi,hv,by rw [this.1,zgH],fun j b hb=>?_⟩
    obtain ⟨c,hc,hr⟩:=zhv (w:=w) (S:=S) (T:=T) (hp:=hp) (m:=m) _ _ j b hb
    obtain ⟨u,hu,hl⟩:=this.2 j c hc
    exact ⟨u,hu,hr _ hl⟩
   ·cases h
  ·cases h
 ·cases h
theorem ziP (hI:Inv base w0 w S0 S T hp m) {id:Nat} {c:Array Value} {cs:List AV} {uu:Unit} (hc:Leaves (leafC w S T hp m) c cs) (h:(newB id (.var cs)).run call hp l=some (uu,hp',l')) (e:TypeId) :
  ∃ m',Step base w0 w (w.alloc (.cells c e)) S0 S S T hp hp' m m'∧leafC (w.alloc (.cells c e)) S T hp' m' (.pointer (some ⟨w.heap.size,0,none⟩)) (.var id 0):=by
 simp only [newB,HA.run] at h
 split at h
 ·rename_i hid
  simp only [HA.run,Option.some.injEq,Prod.mk.injEq] at h
  obtain ⟨_,rfl,_⟩:=h
  obtain ⟨q1,q2⟩:=hI.new hid c e (.var cs) rfl (fun cs' h=>by cases h;exact hc) (let ⟨G,hG⟩:=hI.cl;hG.grow (n:=0) Rsv.none (fun k hk=>Below.heap_alloc w _ k (hI.slt k hk)) (fun i b _ ho hm=>Below.heap_alloc w _ b (hI.rng i b ho hm).2.1) (fun _ _ _ _ _ _ _ _ _ h=>nomatch h)) (fun _ _ _ _ _ h=>nomatch h)
  exact ⟨_,⟨q1,fun _ h=>h,by simp,q2⟩,⟨cs,zr _ _ _⟩,_,zH _ _ _,rfl⟩
 ·cases h
theorem zls (h:zgr P t=true):∃ fs places,P.underlying t=some (.struct fs)∧fs.toList.mapM (fun f=>(P.info? f.type).map fun i=>(f.offset,i.size))=some places ∧
  ∀ (f:Nat) (g:Field),fs[f]? = some g→places.toArray[f]? = some (g.offset,szOf P g.type):=by
 unfold zgr at h
 split at h
 ·rename_i fs hu
  have key:∀ l:List Field,l.all (fun g=>(P.info? g.type).isSome)=true→∃ places,l.mapM (fun f=>(P.info? f.type).map fun i=>(f.offset,i.size))=some places∧∀ (f:Nat) (g:Field),l[f]? = some g→places[f]? = some (g.offset,szOf P g.type):=by
   intro l
   induction l with
   | nil=>intro _;exact ⟨[],rfl,fun f g h=>by simp at h⟩
   | cons a r ih =>
    intro hl
    simp only [List.all_cons,Bool.and_eq_true] at hl
    obtain ⟨i,hi⟩:=Option.isSome_iff_exists.1 hl.1
    obtain ⟨ps,h1,h2⟩:=ih hl.2
    refine ⟨(a.offset,i.size)::ps,by simp [List.mapM_cons,hi,h1],fun f g hg=>?_⟩
    cases f with
    | zero=>simp only [List.getElem?_cons_zero,Option.some.injEq] at hg ⊢;subst hg;rw [zet hi]
    | succ f=>exact h2 f g hg
  obtain ⟨ps,h1,h2⟩:=key fs.toList h
  exact ⟨fs,ps,hu,h1,fun f g hg=>by simpa using h2 f g (by simpa using hg)⟩
 ·cases h
theorem zfw {fs:Array Field} {place:Nat→Option (Nat × Nat)} (hu:P.underlying t=some (.struct fs)) (hpl:∀ (f:Nat) (g:Field),fs[f]? = some g→place f=some (g.offset,szOf P g.type)) :
  ∀ {ps:List (Nat × AV)} {vs:List (Nat × Value)} {c:Array Value} {cs cs':List AV},vs.length=ps.length→(∀ (j:Nat) (i:Nat) (x:AV),ps[j]? = some (i,x)→∃ u,vs[j]? = some (i,u)∧valC w S T hp m u x) →
   Leaves (leafC w S T hp m) c cs→zcT P t ps cs=some cs'→∃ c',Instr.fill place c vs=some c'∧Leaves (leafC w S T hp m) c' cs'
 | [],vs,c,cs,cs',hl,hv,hc,h=>by
  obtain rfl:vs=[]:=List.eq_nil_of_length_eq_zero (by simpa using hl)
  cases h
  exact ⟨c,rfl,hc⟩
 | (i,x)::r,vs,c,cs,cs',hl,hv,hc,h=>by
  obtain ⟨u,hu0,hux⟩:=hv 0 i x rfl
  cases vs with
  | nil=>cases hu0
  | cons p vs =>
  simp only [List.getElem?_cons_zero,Option.some.injEq] at hu0
  subst hu0
  unfold zcT at h
  split at h
  ·rename_i off sz hf
   cases hb:(Nat.beq x.cells.length sz&&Nat.ble (off+sz) cs.length) with
   | false=>rw [hb] at h;cases h
   | true =>
    rw [hb] at h
    simp only [Bool.and_eq_true] at hb
    have h1:=zC hb.1
    have h2:=Nat.le_of_ble_eq_true hb.2
    have hcell:=zbR hux
    have hpi:place i=some (off,sz):=by
     unfold zdi at hf
     rw [hu] at hf
     simp only [] at hf
     split at hf
     ·rename_i g hg
      cases hf
      exact hpl i g hg
     ·cases hf
    obtain ⟨c',q1,q2,q3⟩:=ziC (place:=place) (cells:=c) (rest:=vs) hpi (by rw [hcell.1,h1]) (by rw [hc.1];exact h2)
    rw [q1]
    exact zfw hu hpl (by simpa using hl) (fun j i x hj=>hv (j+1) i x hj) (ze8 hc hcell h1 h2 q2 q3) h
  ·cases h
end
end Ovi
namespace Ovi
open Go Go.RowKit
theorem zmb {w:World} {b:Nat} {cur c:Array Value} {e:TypeId} (h:w.heap[b]? = some (.cells cur e (0,0))):w.setRow b c=zag w b c e:=by
 have hlt:b < w.heap.size:=z6 h
 have hv:w.heap[b]=.cells cur e (0,0):=(Array.getElem?_eq_some_iff.1 h).2
 unfold World.setRow zag
 congr 1
 apply Array.ext_getElem?
 intro k
 rw [Array.getElem?_modify]
 by_cases hk:b=k
 ·subst hk
  rw [if_pos rfl,Array.getElem?_setIfInBounds_self_of_lt hlt,h]
  rfl
 ·rw [if_neg hk,Array.getElem?_setIfInBounds_ne hk]
section
variable {P:Program} {call:zi} {base:Nat} {w0 w:World} {S0 S T:Nat→Prop} {hp hp':Hp} {l l':Log} {m:MapM} {v u:Value} {t e:TypeId} {x y z:AV}
theorem zgR {b off:Nat} {cur:Array Value} {e:TypeId} {u:Value} (hb:w.heap[b]? = some (.cells cur e (0,0))) (hs:u.cells.size=szOf P t) (h1:1≤szOf P t) (hf:off+u.cells.size≤cur.size) (ho:∀ v∈u.cells.toList,v.oneCell'=true) :
  (Instr.storeAt t (zb0 b off) u).run P w=.ok () (zag w b (zaN cur.toList off u.cells.toList).toArray e):=by
 obtain ⟨i,hi,hsz,_⟩:=zcF (P:=P) (e:=t) (Nat.ble_eq_true_of_le h1)
 have h:=run_storeCells_at P b off e u.cells.toList 0 cur w hb (by simpa using hf) ho
 rw [zmb hb] at h
 simp only [zb0,Instr.storeAt,Instr.sureAddr,Sem.run_bind,Sem.run_pure,Result.andThen_ok,storeVar,zeV hi]
 rw [if_neg (by simp [hs])]
 simpa [zaN] using h
theorem zeK {vs:Array Value} {cs:List AV} (h:Leaves (leafC w S T hp m) vs cs):∀ v∈vs.toList,v.oneCell'=true:=by
 intro v hv
 obtain ⟨j,hj⟩:=List.mem_iff_getElem?.1 hv
 have hlt:j < cs.length:=by rw [← h.1];simpa using (List.getElem?_eq_some_iff.1 hj).1
 obtain ⟨u,hu,hl⟩:=h.2 j _ (List.getElem?_eq_getElem hlt)
 have:vs[j]? = some v:=by simpa using hj
 rw [this] at hu
 cases hu
 exact zeJ hl
theorem zeu (cur:Array Value) (off:Nat) (vs:Array Value) (hf:off+vs.size≤cur.size):(zaN cur.toList off vs.toList).toArray.size=cur.size∧∀ p:Nat,(zaN cur.toList off vs.toList).toArray[p]? = if off≤p∧p < off+vs.size then vs[p - off]? else cur[p]? := by
 refine ⟨by simp [zcZ (cs:=cur.toList) (vs:=vs.toList) (off:=off) (by simpa using hf)],fun p=>?_⟩
 rw [List.getElem?_toArray,ze1 (by simpa using hf)]
 simp
theorem ze6 {xs:Rows} {i off:Nat} {ys:List D} {i' c:Nat} {d:D} (hi:i < xs.length) (hf:off+ys.length≤(xs.getD i []).length) (h:zk (zai xs i off ys) i' c=some d) :
  (i'=i∧off≤c∧c < off+ys.length∧ys[c - off]? = some d)∨(¬ (i'=i∧off≤c∧c < off+ys.length)∧zk xs i' c=some d):=by
 have e:zai xs i off ys=xs.set i (zaN (xs.getD i []) off ys):=rfl
 rw [e] at h
 unfold zk at h
 by_cases hii:i'=i
 ·subst hii
  rw [List.getElem?_set_self hi] at h
  simp only [Option.bind_some] at h
  rw [ze1 hf] at h
  split at h
  ·rename_i hc
   exact .inl ⟨rfl,hc.1,hc.2,h⟩
  ·rename_i hc
   refine .inr ⟨fun h=>hc h.2,?_⟩
   rw [List.getD_eq_getElem?_getD,List.getElem?_eq_getElem hi] at h
   unfold zk
   rw [List.getElem?_eq_getElem hi]
   exact h
 ·rw [List.getElem?_set_ne (Ne.symm hii)] at h
  exact .inr ⟨fun h=>hii h.1,h⟩
theorem zmP {uu:Unit} (hI:Inv base w0 w S0 S T hp m) (hx:AC w S T hp m v x) (hy:valC w S T hp m u y) (h:(store P t x y).run call hp l=some (uu,hp',l')) :
  ∃ w' S',(Instr.storeAt t v u).run P w=.ok () w'∧Step base w0 w w' S0 S S' T hp hp' m m:=by
 unfold store at h
 split at h
 ·rename_i id off
  obtain ⟨b,h1,l1,hb,g⟩:=bind_some h
  obtain ⟨hid,rfl⟩:=zae hb
  clear h hb
  split at g
  ·rename_i cs
   obtain ⟨hc,g1⟩:=zB g
   clear g
   simp only [Bool.and_eq_true] at hc
   obtain ⟨c1,c2,c3⟩:=hc
   have c1:=zC c1
   have c2:=Nat.le_of_ble_eq_true c2
   have c3:=Nat.le_of_ble_eq_true c3
   simp only [putB,HA.run,Option.some.injEq,Prod.mk.injEq] at g1
   obtain ⟨_,rfl,_⟩:=g1
   obtain ⟨_,b,hm,rfl⟩:=hx
   obtain ⟨b',c,e,hm',hc,hl⟩:=hI.var _ _ hid
   rw [hm] at hm'
   cases hm'
   have hcell:=zbR hy
   have hfit:off+u.cells.size≤c.size:=by rw [hcell.1,c1,hl.1];exact c2
   have hrun:=zgR (P:=P) (t:=t) (off:=off) hc (by rw [hcell.1,c1]) c3 hfit (zeK hcell)
   obtain ⟨s1,s2⟩:=zeu c off u.cells hfit
   obtain ⟨q1,q2⟩:=hI.write (c':=(zaN c.toList off u.cells.toList).toArray) (blk':=.var (zaN cs off y.cells)) hid rfl rfl hm hc s1 (.inl ⟨_,_,rfl,rfl,ze8 hl hcell c1 (by rw [c1] at *;exact c2) s1 (by rw [hcell.1,c1] at s2;exact s2)⟩)
    (let ⟨G,hG⟩:=hI.cl;⟨G,hG.writeNo hI hid rfl hm fun _ _ _ _ _ _ _ h=>nomatch h⟩)
   exact ⟨_,S,hrun,q1,fun _ h=>h,by rw [zbb];exact Nat.le_refl _,q2⟩
  ·cases g
 ·rename_i id n i off
  obtain ⟨⟨ds,oc⟩,h1,l1,hn,g⟩:=bind_some h
  clear h
  obtain ⟨S1,s1,f1,n1,n2,n3⟩:=zin hI hn
  obtain ⟨b,h2,l2,hb,g1⟩:=bind_some g
  obtain ⟨hid,rfl⟩:=zae hb
  clear g hb
  split at g1
  ·rename_i e sz ver xs q0
   obtain ⟨hc,g2⟩:=zB g1
   clear g1
   simp only [Bool.and_eq_true] at hc
   obtain ⟨⟨c0,c1⟩,c2,c3⟩:=hc
   obtain rfl:=zC c0
   have c1:=zC c1
   have c2:=Nat.le_of_ble_eq_true c2
   have c3:=Nat.le_of_ble_eq_true c3
   simp only [putB,HA.run,Option.some.injEq,Prod.mk.injEq] at g2
   obtain ⟨_,rfl,_⟩:=g2
   have hx:leafC w S T hp m v (.el id ver i off):=hx
   have hx1:=s1.ext _ _ hx
   simp only [leafC,hid] at hx1
   obtain ⟨hi,b,hm,rfl⟩:=hx1.2.2 trivial
   obtain ⟨a1,a2⟩:=s1.inv.arr _ _ _ _ _ _ hid
   rw [hm] at a2
   obtain ⟨cur,hcur,a3,a4⟩:=a2
   have hcell:=zbR hy
   have hn2:=n2 _ hcell
   have hlen:ds.length=szOf P t:=by rw [n1,c1]
   have hrow:(xs.getD i []).length=sz:=by rw [List.getD_eq_getElem?_getD,List.getElem?_eq_getElem hi];exact a1 i _ (List.getElem?_eq_getElem hi)
   have hile:(i+1) * sz≤xs.length * sz:=Nat.mul_le_mul_right _ hi
   rw [Nat.add_mul] at hile
   have husz:u.cells.size=szOf P t:=by rw [hcell.1,c1]
   have hfit:i * sz+off+u.cells.size≤cur.size:=by omega
   have hrun:=zgR (P:=P) (t:=t) (off:=i * sz+off) hcur husz c3 hfit (zeK hcell)
   obtain ⟨t1,t2⟩:=zeu cur (i * sz+off) u.cells hfit
   have hsp:off+ds.length≤(xs.getD i []).length:=by rw [hrow,hlen];exact c2
   have hlen2:(zai xs i off ds).length=xs.length:=List.length_set
   have newc:∀ k q,off≤k→k < off+ds.length→u.cells[k - off]? = some q→(zaN cur.toList (i * sz+off) u.cells.toList).toArray[i * sz+k]? = some q:=by
    intro k q k1 k2 hq
    rw [t2,if_pos (by omega),show i * sz+k - (i * sz+off)=k - off by omega]
    exact hq
   have oldc:∀ j k d,¬ (j=i∧off≤k∧k < off+ds.length)→zk xs j k=some d→(zaN cur.toList (i * sz+off) u.cells.toList).toArray[j * sz+k]? = cur[j * sz+k]? := by
    intro j k d h1 h2
    rw [t2,if_neg ?_]
    obtain ⟨r,hr,hrk⟩:=zav h2
    have hk:k < sz:=by have:=a1 j r hr;have:=(List.getElem?_eq_some_iff.1 hrk).1;omega
    intro hcon
    rcases Nat.lt_trichotomy j i with hji | hji | hji
    ·have:(j+1) * sz≤i * sz:=Nat.mul_le_mul_right _ hji
     rw [Nat.add_mul] at this
     omega
    ·subst hji
     exact h1 ⟨rfl,by omega,by omega⟩
    ·have:(i+1) * sz≤j * sz:=Nat.mul_le_mul_right _ hji
     rw [Nat.add_mul] at this
     omega
   have hstore:0 < (zcW q0 oc).1→(zcW q0 oc).1=q0.1∧(zcW q0 oc).2.1=q0.2.1∧(zcW q0 oc).2.2=q0.2.2+1∧leO q0.1 oc:=by
    intro hpos
    cases oc with
    | none=>exact ⟨rfl,rfl,rfl,True.intro⟩
    | some k =>
     simp only [zcW] at hpos ⊢
     cases hb:Nat.ble q0.1 k with
     | false=>rw [hb] at hpos;exact absurd hpos (Nat.lt_irrefl 0)
     | true=>exact ⟨rfl,rfl,rfl,Nat.le_of_ble_eq_true hb⟩
   obtain ⟨G0,hG0⟩:=hI.cl
   obtain ⟨G,R,hGs,hFo⟩:=n3 G0 hG0
   have hcl:∃ G',Cl base (zag w b (zaN cur.toList (i * sz+off) u.cells.toList).toArray e) S1 T (updH h2 id (some (.arr e sz ver (zai xs i off ds) (zcW q0 oc)))) m G':=by
    let win:Nat→Nat→Nat→Prop:=fun i' j c=>i'=id∧j=i∧off≤c∧c < off+ds.length
    refine ⟨fun i' j c k=>(¬ win i' j c∧G i' j c k)∨(win i' j c∧R (c - off) k),hGs.cl.write s1.inv hid rfl hm (fun i' j c k hk=>?_) (fun i' j c i'' j' c' k k1 k2=>?_) (fun i' hi' j c k=>?_) (fun e1 sz1 ver1 xs1 d lo cv hblk hd j k x hlo hx=>?_)⟩
    ·rcases hk with ⟨_,hk⟩ | ⟨_,hk⟩
     ·exact hGs.cl.gs _ _ _ _ hk
     ·exact hGs.inS _ _ hk
    ·rcases k1 with ⟨_,k1⟩ | ⟨w1,k1⟩<;>rcases k2 with ⟨_,k2⟩ | ⟨w2,k2⟩
     ·exact hGs.cl.gd _ _ _ _ _ _ _ k1 k2
     ·exact absurd k1 (hGs.off _ _ k2 _ _ _)
     ·exact absurd k2 (hGs.off _ _ k1 _ _ _)
     ·have:=hGs.one _ _ _ k1 k2
      exact ⟨w1.1.trans w2.1.symm,w1.2.1.trans w2.2.1.symm,by have:=w1.2.2;have:=w2.2.2;omega⟩
    ·exact propext ⟨fun h=>h.elim (fun h=>h.2) fun h=>absurd h.1.1 hi',fun h=>.inl ⟨fun h=>hi' h.1,h⟩⟩
    ·simp only [Blk.arr.injEq] at hblk
     obtain ⟨_,rfl,_,rfl,hq⟩:=hblk
     obtain ⟨z1,z2,_,z4⟩:=hstore (by rw [hq];exact hd)
     rw [hq] at z1 z2
     simp only [] at z1 z2
     subst z1 z2
     rcases ze6 hi hsp hx with ⟨rfl,h1,h2',h3⟩ | ⟨h1,h2'⟩
     ·obtain ⟨_,q,hq,_⟩:=hn2 _ _ h3
      exact ⟨q,newc k q h1 h2' hq,Fo.stab (fun _ _=>rfl) (fun k' hk'=>.inr ⟨⟨rfl,rfl,h1,h2'⟩,hk'⟩) (hFo _ hcell (k - off) x q _ h3 hq z4)⟩
     ·obtain ⟨u',hu',hf⟩:=hGs.cl.gf id e sz ver xs q0.1 q0.2.1 q0.2.2 b cur hid hd hm hcur j k x hlo h2'
      exact ⟨u',by rw [oldc j k x h1 h2'];exact hu',Fo.stab (fun _ _=>rfl) (fun k' hk'=>.inl ⟨fun hw=>h1 hw.2,hk'⟩) hf⟩
   obtain ⟨q1,q2⟩:=s1.inv.write (hcl:=hcl) (c':=(zaN cur.toList (i * sz+off) u.cells.toList).toArray) (blk':=.arr e sz ver (zai xs i off ds) (zcW q0 oc)) hid rfl rfl hm hcur t1 (.inr ⟨sz,ver,xs,q0,ver,_,_,rfl,rfl,fun _ hpos=>by
    obtain ⟨z1,_,z3,_⟩:=hstore hpos
    exact ⟨by omega,by omega⟩,Nat.le_refl _,fun _=>hlen2,fun j r hr=>by
    have e:zai xs i off ds=xs.set i (zaN (xs.getD i []) off ds):=rfl
    rw [e] at hr
    by_cases hj:j=i
    ·subst hj
     rw [List.getElem?_set_self hi] at hr
     cases hr
     rw [zcZ hsp,hrow]
    ·rw [List.getElem?_set_ne (Ne.symm hj)] at hr
     exact a1 j r hr,by rw [hlen2,t1];exact a3,fun j k d hd=>by
    rcases ze6 hi hsp hd with ⟨rfl,h1,h2,h3⟩ | ⟨h1,h2⟩
    ·obtain ⟨h4,q,hq,hrd⟩:=hn2 _ _ h3
     refine ⟨h4,q,?_,hrd⟩
     rw [t2,if_pos (by omega),show j * sz+k - (j * sz+off)=k - off by omega]
     exact hq
    ·obtain ⟨h4,q,hq,hrd⟩:=a4 j k d h2
     refine ⟨h4,q,?_,hrd⟩
     rw [t2,if_neg ?_]
     ·exact hq
     ·obtain ⟨r,hr,hrk⟩:=zav h2
      have hk:k < sz:=by have:=a1 j r hr;have:=(List.getElem?_eq_some_iff.1 hrk).1;omega
      intro hcon
      rcases Nat.lt_trichotomy j i with hji | hji | hji
      ·have:(j+1) * sz≤i * sz:=Nat.mul_le_mul_right _ hji
       rw [Nat.add_mul] at this
       omega
      ·subst hji
       exact h1 ⟨rfl,by omega,by omega⟩
      ·have:(i+1) * sz≤j * sz:=Nat.mul_le_mul_right _ hji
       rw [Nat.add_mul] at this
       omega⟩)
   exact ⟨_,S1,hrun,s1.trans ⟨q1,fun _ h=>h,by rw [zbb];exact Nat.le_refl _,q2⟩⟩
  ·cases g1
 ·cases h
theorem zfl:∀ {ps:List (Nat × AV)} {vs:List (Nat × Value)} {S:Nat→Prop} {hp hp':Hp} {l l':Log} {xs:Rows} {o:Option Nat},Inv base w0 w S0 S T hp m→vs.length=ps.length →
  (∀ (j:Nat) (i:Nat) (x:AV),ps[j]? = some (i,x)→∃ u,vs[j]? = some (i,u)∧valC w S T hp m u x)→(zdN ps).run call hp l=some ((xs,o),hp',l') →
  ∃ S',Step base w0 w w S0 S S' T hp hp' m m∧xs.length=ps.length∧(∀ (j:Nat) (row:List D),xs[j]? = some row→∃ i u x,vs[j]? = some (i,u)∧ps[j]? = some (i,x)∧row.length=x.cells.length∧u.cells.size=x.cells.length∧(∀ v∈u.cells.toList,v.oneCell'=true) ∧
   ∀ (c:Nat) d,row[c]? = some d→d.isFn=false∧∃ q,u.cells[c]? = some q∧RD w S' T q d) ∧
   ∀ G,Cl base w S T hp m G→∃ G' R,Cl base w S' T hp' m G'∧Rsv base S' T G' R∧(∀ id i c k,G' id i c k→G id i c k)∧(∀ i c k,R i c k→¬ S k∨∃ id i' c',G id i' c' k) ∧
    ∀ (j i:Nat) (u:Value) (row:List D) (c:Nat) d q n,vs[j]? = some (i,u)→xs[j]? = some row→row[c]? = some d→u.cells[c]? = some q→leO n o→Fo n w q d (R j c)
 | [],vs,S,hp,hp',l,l',xs,o,hI,hl,hv,h=>by
  obtain ⟨e,rfl⟩:=ze h
  cases e
  exact ⟨S,Step.refl hI,rfl,fun j row h=>by simp at h,fun G hG=>⟨G,_,hG,Rsv.none,fun _ _ _ _ h=>h,fun _ _ _ h=>h.elim,fun j i u row c d q n _ h=>by simp at h⟩⟩
 | (i,x)::r,vs,S,hp,hp',l,l',xs,o,hI,hl,hv,h=>by
  obtain ⟨u,hu0,hux⟩:=hv 0 i x rfl
  cases vs with
  | nil=>cases hu0
  | cons p vs =>
  simp only [List.getElem?_cons_zero,Option.some.injEq] at hu0
  subst hu0
  obtain ⟨⟨ds,o1⟩,h1,l1,hn,g⟩:=bind_some h
  obtain ⟨⟨ys,o2⟩,h2,l2,hr,g1⟩:=bind_some g
  obtain ⟨e,rfl⟩:=ze g1
  simp only [Prod.mk.injEq] at e
  obtain ⟨rfl,rfl⟩:=e
  clear h g g1
  obtain ⟨S1,s1,f1,n1,n2,n3⟩:=zin hI hn
  obtain ⟨S2,s2,k1,k2,k3⟩:=zfl (vs:=vs) s1.inv (by simpa using hl) (fun j i x hj=>by
   obtain ⟨u,hu,hx⟩:=hv (j+1) i x hj
   exact ⟨u,hu,hx.mono s1.ext⟩) hr
  have hcell:=zbR hux
  refine ⟨S2,s1.trans s2,by simp [k1],fun j row hj=>?_,fun G hG=>?_⟩
  ·cases j with
   | zero =>
    simp only [List.getElem?_cons_zero,Option.some.injEq] at hj
    subst hj
    refine ⟨i,u,x,rfl,rfl,n1,hcell.1,zeK hcell,fun c d hd=>?_⟩
    obtain ⟨h4,q,hq,hrd⟩:=n2 _ hcell c d hd
    exact ⟨h4,q,hq,hrd.mono (Stab.refl _ _) (Stab.refl _ _) s2.sub fun _ h=>h⟩
   | succ j=>exact k2 j row hj
  ·obtain ⟨G1,R0,g1,fo1⟩:=n3 G hG
   obtain ⟨G2,R,c2,r2,sub2,wh2,fo2⟩:=k3 G1 g1.cl
   have apart:∀ c i c' k,R0 c k→R i c' k→False:=fun c i c' k hb hr=>by
    rcases wh2 i c' k hr with h | ⟨id,i',c'',h⟩
    ·exact h (g1.inS c k hb).1
    ·exact g1.off c k hb id i' c'' h
   refine ⟨G2,fun j c k=>match j with | 0=>R0 c k | j+1=>R j c k,c2,⟨fun j c k hk=>?_,fun j c k hk id i' c' hg=>?_,fun j c j' c' k h h'=>?_⟩,fun id i c k h=>g1.sub _ _ _ _ (sub2 _ _ _ _ h),fun j c k hk=>?_,fun j i' u' row c d q n hu hrow hd hq hn=>?_⟩
   ·cases j with
    | zero=>exact ⟨s2.sub k (g1.inS c k hk).1,(g1.inS c k hk).2⟩
    | succ j=>exact r2.inS j c k hk
   ·cases j with
    | zero=>exact g1.off c k hk id i' c' (sub2 _ _ _ _ hg)
    | succ j=>exact r2.off j c k hk id i' c' hg
   ·cases j with
    | zero=>cases j' with
     | zero=>exact ⟨rfl,g1.one c c' k h h'⟩
     | succ j'=>exact (apart _ _ _ _ h h').elim
    | succ j=>cases j' with
     | zero=>exact (apart _ _ _ _ h' h).elim
     | succ j' =>
      obtain ⟨e1,e2⟩:=r2.one j c j' c' k h h'
      exact ⟨by rw [e1],e2⟩
   ·cases j with
    | zero=>exact g1.whence c k hk
    | succ j =>
     rcases wh2 j c k hk with h | ⟨id,i,c',h⟩
     ·exact .inl fun hs=>h (s1.sub k hs)
     ·exact .inr ⟨id,i,c',g1.sub _ _ _ _ h⟩
   ·obtain ⟨m1,m2⟩:=zkN hn
    cases j with
    | zero =>
     simp only [List.getElem?_cons_zero,Option.some.injEq,Prod.mk.injEq] at hu hrow
     obtain ⟨_,rfl⟩:=hu
     subst hrow
     exact fo1 _ hcell c d q n hd hq m1
    | succ j=>exact fo2 j i' u' row c d q n hu hrow hd hq m2
theorem zhW:∀ {ps:List (Nat × AV)} {k:Nat},zen k ps=true→∀ (j i:Nat) (x:AV),ps[j]? = some (i,x)→i=k+j
 | [],k,h,j,i,x,hj=>by simp at hj
 | (i0,x0)::r,k,h,j,i,x,hj=>by
  simp only [zen,Bool.and_eq_true] at h
  cases j with
  | zero =>
   simp only [List.getElem?_cons_zero,Option.some.injEq,Prod.mk.injEq] at hj
   rw [← hj.1,zC h.1];rfl
  | succ j=>rw [zhW h.2 j i x hj];omega
theorem zjQ {sz:Nat}:∀ {vs:List (Nat × Value)} {k:Nat} {cells:Array Value},(∀ (j i:Nat) (u:Value),vs[j]? = some (i,u)→i=k+j∧u.cells.size=sz)→(k+vs.length) * sz≤cells.size →
  ∃ cells',Instr.fill (fun i=>some (i * sz,sz)) cells vs=some cells'∧cells'.size=cells.size∧(∀ (j i:Nat) (u:Value),vs[j]? = some (i,u)→∀ c,c < sz→cells'[(k+j) * sz+c]? = u.cells[c]?)∧∀ p,p < k * sz→cells'[p]? = cells[p]?
 | [],k,cells,h1,h2=>⟨cells,rfl,rfl,fun j i u h=>by simp at h,fun p _=>rfl⟩
 | (i,u)::r,k,cells,h1,h2=>by
  obtain ⟨hi,hu⟩:=h1 0 i u rfl
  simp only [Nat.add_zero] at hi
  subst hi
  simp only [List.length_cons] at h2
  have hle:(i+1) * sz≤(i+(r.length+1)) * sz:=Nat.mul_le_mul_right _ (by omega)
  have e1:(i+1) * sz=i * sz+sz:=by rw [Nat.add_mul];omega
  obtain ⟨c1,q1,q2,q3⟩:=ziC (place:=fun i=>some (i * sz,sz)) (cells:=cells) (i:=i) (v:=u) (rest:=r) rfl hu (by omega)
  obtain ⟨c2,r1,r2,r3,r4⟩:=zjQ (vs:=r) (k:=i+1) (cells:=c1) (fun j i' u' hj=>by
   obtain ⟨h3,h4⟩:=h1 (j+1) i' u' hj
   exact ⟨by omega,h4⟩) (by rw [q2,show i+1+r.length=i+(r.length+1) by omega];exact h2)
  refine ⟨c2,by rw [q1,r1],by rw [r2,q2],fun j i' u' hj c hc=>?_,fun p hp=>?_⟩
  ·cases j with
   | zero =>
    simp only [List.getElem?_cons_zero,Option.some.injEq,Prod.mk.injEq] at hj
    obtain ⟨rfl,rfl⟩:=hj
    rw [Nat.add_zero,r4 _ (by omega),q3,if_pos (by omega),Nat.add_sub_cancel_left]
   | succ j =>
    rw [show i+(j+1)=i+1+j by omega]
    exact r3 j i' u' hj c hc
  ·rw [r4 _ (by omega),q3,if_neg (by omega)]
end
end Ovi
namespace Ovi
open Go Go.RowKit
section
variable {P:Program} {call:zi} {base:Nat} {w0 w:World} {S0 S T:Nat→Prop} {hp hp':Hp} {l l':Log} {m:MapM} {tm:Nat→Option AV} {a:Act} {x:AV} {o:Oper} {sig:FuncId→Sig}
theorem Good.of_run {s:Sem Value} (he:execOp a.eval o=(do pure (.value (← s)))) {r:Value} {w':World} {S':Nat→Prop} {m':MapM} (hr:s.run P w=.ok r w') (hs:Step base w0 w w' S0 S S' T hp hp' m m') (hx:AC w' S' T hp' m' r x):Good P base w0 w S0 S T hp m o a x hp' :=
 Good.value (by rw [he];simp [hr]) hs hx
theorem ziO (hI:Inv base w0 w S0 S T hp m) {id:Nat} {c:Array Value} {e:TypeId} {sz:Nat} {xs:Rows} {q:Cm} {uu:Unit} (hcl:∃ G R,Cl base w S T hp m G∧Rsv base S T G R∧(0 < q.1→∀ i k x u,zk xs i k=some x→c[i * sz+k]? = some u→Fo q.1 w u x (R i k))) (h1:∀ (i:Nat) (x:List D),xs[i]? = some x→x.length=sz) (h2:c.size=xs.length * sz)
  (h3:∀ i k x,zk xs i k=some x→x.isFn=false∧∃ v,c[i * sz+k]? = some v∧RD w S T v x) (hm:xs.length≤maxLen) (h:(newB id (.arr e sz 0 xs q)).run call hp l=some (uu,hp',l')) :
  ∃ m',Step base w0 w (w.alloc (.cells c e)) S0 S S T hp hp' m m'∧leafC (w.alloc (.cells c e)) S T hp' m' (.slice (some ⟨w.heap.size,0,none⟩) xs.length xs.length) (.own id 0):=by
 simp only [newB,HA.run] at h
 split at h
 ·rename_i hid
  simp only [HA.run,Option.some.injEq,Prod.mk.injEq] at h
  obtain ⟨_,rfl,_⟩:=h
  obtain ⟨G,R,hG,hR,hFo⟩:=hcl
  obtain ⟨q1,q2⟩:=hI.new hid c e (.arr e sz 0 xs q) rfl (fun cs' h=>by cases h) (hG.grow (n:=0) hR (fun k hk=>Below.heap_alloc w _ k (hI.slt k hk)) (fun i b _ ho hm=>Below.heap_alloc w _ b (hI.rng i b ho hm).2.1) (fun e1 sz1 ver1 xs1 d lo cv b cur k1 k2 k3 k4 i k x k5 k6=>by
   cases k1
   cases k3
   rw [heap_alloc_new] at k4
   cases k4
   obtain ⟨_,u,hu,_⟩:=h3 i k x k6
   exact ⟨u,hu,.inr ⟨Nat.zero_le _,hFo k2 i k x u k6 hu⟩⟩)) (fun e' sz' ver xs' q' h=>by cases h;exact ⟨rfl,h1,by rw [h2];exact Nat.le_refl _,h3⟩)
  refine ⟨_,⟨q1,fun _ h=>h,by simp,q2⟩,?_⟩
  simp only [leafC,zr,zH]
  exact ⟨rfl,Nat.le_refl _,fun _=>⟨_,c,rfl,heap_alloc_new w _,Nat.le_refl _,hm,h2⟩⟩
 ·cases h
theorem zmn {t:TypeId} {ps:Array (Nat × Operand)} (hT:TmOk w S T hp m tm a.tmps) {z cs:List AV} {pl:List (Nat × AV)} (hz:zew P t=some z) (hp1:zbt (zI tm) ps.toList=some pl) (hs:zgr P t=true) (hf:zcT P t pl z=some cs) :
  ∃ r,(Instr.build t (ps.map fun (i,x)=>(i,a.eval x))).run P w=.ok r w∧valC w S T hp m r (.agg cs):=by
 obtain ⟨i,v,hi,hv,hl⟩:=zfY (w:=w) (S:=S) (T:=T) (hp:=hp) (m:=m) hz
 obtain ⟨fs,places,hu,hpl,hget⟩:=zls hs
 obtain ⟨vs,h0,h1,h2⟩:=zd0 hT hp1
 obtain ⟨c',q1,q2⟩:=zfw (place:=(places.toArray[·]?)) hu hget h1 h2 hl hf
 have hb:P.built t (ps.map fun (i,x)=>(i,a.eval x)).toList=some c':=by
  unfold Program.built
  simp only [hi,hu,hv,hpl]
  rw [Array.toList_map,h0]
  exact q1
 exact ⟨_,run_build w t _ c' hb,_,rfl,q2⟩
theorem zi9 {t e:TypeId} {len id:Nat} {ps:Array (Nat × Operand)} (hI:Inv base w0 w S0 S T hp m) (hT:TmOk w S T hp m tm a.tmps) {pl:List (Nat × AV)} (he:zbI P t=some e) (hp1:zbt (zI tm) ps.toList=some pl) (hlen:len≠0)
  (hc:(zgm P e&&(Nat.ble (len * szOf P e) 16777216&&(zen 0 pl&&(Nat.beq pl.length len&&pl.all (fun p=>Nat.beq p.2.cells.length (szOf P e))))))=true)
  (h:(do let xs ← zdN pl;newB id (.arr e (szOf P e) 0 xs.1 (capO (zb3 P 8 e) xs.2,0,0));HA.ret (AV.own id 0)).run call hp l=some (x,hp',l')) :
  ∃ r w' S' m',(Instr.buildSlice t len (ps.map fun (i,x)=>(i,a.eval x))).run P w=.ok r w'∧Step base w0 w w' S0 S S' T hp hp' m m'∧leafC w' S' T hp' m' r x:=by
 simp only [Bool.and_eq_true,List.all_eq_true] at hc
 obtain ⟨c1,c2,c3,c4,c5⟩:=hc
 obtain ⟨i,z,hi,hz,hzs,hpos,hby⟩:=zhb c1
 have c2:=Nat.le_of_ble_eq_true c2
 have c4:=zC c4
 have hsz:=zet hi
 rw [hsz] at c2 c5 h
 obtain ⟨⟨xs,oc⟩,h1,l1,hx,g⟩:=bind_some h
 obtain ⟨_,h2,l2,hn,g1⟩:=bind_some g
 obtain ⟨rfl,rfl⟩:=ze g1
 clear h g g1
 obtain ⟨vs,e0,e1,e2⟩:=zd0 hT hp1
 obtain ⟨S',s1,b1,b2,b3⟩:=zfl hI e1 e2 hx
 have hcell:∀ (j i':Nat) (y:AV),pl[j]? = some (i',y)→y.cells.length=i.size:=fun j i' y hj=>zC (c5 _ (List.mem_of_getElem? hj))
 have hall:∀ (j i':Nat) (u:Value),vs[j]? = some (i',u)→i'=0+j∧u.cells.size=i.size:=by
  intro j i' u hj
  have hlt:j < pl.length:=by rw [← e1];exact (List.getElem?_eq_some_iff.1 hj).1
  obtain ⟨⟨i'',y⟩,hpj⟩:∃ p,pl[j]=p:=⟨_,rfl⟩
  have hpj':pl[j]? = some (i'',y):=by rw [List.getElem?_eq_getElem hlt,hpj]
  obtain ⟨u',hu',hval⟩:=e2 j i'' y hpj'
  rw [hj] at hu'
  cases hu'
  exact ⟨zhW c3 j _ y hpj',by rw [(zbR hval).1];exact hcell j _ y hpj'⟩
 have hzl:((Array.range (len * i.size)).map (z.cells[· % z.cells.size]!)).size=len * i.size:=by simp
 obtain ⟨cells,f1,f2,f3,_⟩:=zjQ (k:=0) (cells:=(Array.range (len * i.size)).map (z.cells[· % z.cells.size]!)) hall (by rw [hzl,e1,c4];simp)
 have hne:len * i.size≠0:=fun h=>by rcases Nat.mul_eq_zero.1 h with h | h<;>omega
 have hrun:=run_buildSlice (P:=P) w t e len (ps.map fun (i,x)=>(i,a.eval x)) cells i z (zbB he) hi hz (by omega) hne (by rw [Array.toList_map,e0];exact f1)
 have hxl:xs.length=len:=by rw [b1,c4]
 have hll:len≤len * i.size:=Nat.le_mul_of_pos_right _ hpos
 have hcl:∃ G R,Cl base w S' T h1 m G∧Rsv base S' T G R∧(0 < capO (zb3 P 8 e) oc→∀ j k d q,zk xs j k=some d→cells[j * i.size+k]? = some q→Fo (capO (zb3 P 8 e) oc) w q d (R j k)):=by
  obtain ⟨G0,hG0⟩:=hI.cl
  obtain ⟨G,R,r1,r2,_,_,r3⟩:=b3 G0 hG0
  refine ⟨G,R,r1,r2,fun _ j k d q hd hq=>?_⟩
  obtain ⟨row,hrow,hk⟩:=zav hd
  obtain ⟨i',u,y,q1,q2,q3,q4,q5,q6⟩:=b2 j row hrow
  have hks:k < i.size:=by have:=(List.getElem?_eq_some_iff.1 hk).1;rw [q3,hcell j i' y q2] at this;exact this
  have:=f3 j i' u q1 k hks
  rw [Nat.zero_add] at this
  rw [this] at hq
  refine r3 j i' u row k d q _ q1 hrow hk hq ?_
  cases oc with
  | none=>exact True.intro
  | some o=>exact Nat.min_le_left _ _
 obtain ⟨m',s2,hl⟩:=ziO (c:=cells) s1.inv hcl (fun j row hj=>by
   obtain ⟨i',u,y,q1,q2,q3,q4,q5,q6⟩:=b2 j row hj
   rw [q3];exact hcell j i' y q2) (by rw [f2,hzl,hxl]) (fun j k d hd=>by
   obtain ⟨row,hrow,hk⟩:=zav hd
   obtain ⟨i',u,y,q1,q2,q3,q4,q5,q6⟩:=b2 j row hrow
   obtain ⟨q7,q,q8,q9⟩:=q6 k d hk
   refine ⟨q7,q,?_,q9⟩
   have hks:k < i.size:=by have:=(List.getElem?_eq_some_iff.1 hk).1;rw [q3,hcell j i' y q2] at this;exact this
   have:=f3 j i' u q1 k hks
   rw [Nat.zero_add] at this
   rw [this]
   exact q8) (by rw [hxl];simp only [maxLen];omega) hn
 rw [hxl] at hl
 exact ⟨_,_,S',m',hrun,s1.trans s2,hl⟩
theorem zmT {a:AV} {d:D} {v:Value} (h:zgt a=some d) (hv:leafC w S T hp m v a):d.isFn=false∧RD w S T v d:=by
 unfold zgt at h
 split at h
 ·cases h
 ·cases h
 ·rename_i x hne hne2
  cases h
  refine ⟨?_,hv⟩
  cases d<;>first | rfl | exact absurd rfl (hne _ _)
 ·rename_i sz
  cases h
  obtain ⟨A,rfl⟩:=hv
  exact ⟨rfl,.list A 0 sz [] (fun _ _=>.int .i64 0) (Nat.le_refl _) (fun i x h=>by simp at h) (fun i c x h=>by simp [zk] at h) (fun i c x h=>by simp [zk] at h) (fun i c x h=>by simp [zk] at h)⟩
 ·cases h
theorem zmS {a:AV} {d:D} (h:zgt a=some d) (n:Nat) (v:Value) (B:Nat→Prop):Fo n w v d B:=by
 cases n with
 | zero=>exact True.intro
 | succ n =>
  unfold zgt at h
  split at h
  ·cases h
  ·cases h
  ·rename_i x hne hne2
   cases h
   cases d<;>first | exact True.intro | exact absurd rfl (hne2 _ _)
  ·cases h
   exact .inl rfl
  ·cases h
theorem zi7:∀ {z:List AV} {ds:List D},zh6 z=some ds→ds.length=z.length∧∀ (k:Nat) (d:D),ds[k]? = some d→∃ a:AV,z[k]? = some a∧zgt a=some d
 | [],ds,h=>by cases h;exact ⟨rfl,fun k d h=>by simp at h⟩
 | a::r,ds,h=>by
  unfold zh6 at h
  split at h
  ·rename_i x y hx hy
   cases h
   obtain ⟨q1,q2⟩:=zi7 hy
   refine ⟨by simp [q1],fun k d h=>?_⟩
   cases k with
   | zero=>simp only [List.getElem?_cons_zero,Option.some.injEq] at h;subst h;exact ⟨a,rfl,hx⟩
   | succ k=>simp only [List.getElem?_cons_succ] at h;exact q2 k d h
  ·cases h
theorem zfO {n:Nat} {x y:List D} {j:Nat} (h:(List.replicate n x)[j]? = some y):j < n∧x=y:=by
 obtain ⟨h1,h2⟩:=List.getElem?_eq_some_iff.1 h
 rw [List.getElem_replicate] at h2
 rw [List.length_replicate] at h1
 exact ⟨h1,h2⟩
theorem zmA {t:TypeId} {id:Nat} {a b:AV} {u v:Value} (hI:Inv base w0 w S0 S T hp m) (hu:AC w S T hp m u a) (hv:AC w S T hp m v b) (h:(zlf P t id a b).run call hp l=some (x,hp',l')) :
  ∃ r w' m',(Instr.makeSlice t u v).run P w=.ok r w'∧Step base w0 w w' S0 S S T hp hp' m m'∧leafC w' S T hp' m' r x:=by
 unfold zlf at h
 split at h
 ·rename_i k n k' n'
  split at h
  ·rename_i e he
   split at h
   ·rename_i z hz
    split at h
    ·rename_i ds hds
     obtain ⟨hc,h⟩:=zB h
     obtain ⟨hn,h⟩:=zbD h
     obtain ⟨hm,h⟩:=zbD h
     obtain ⟨_,h1,l1,hnew,g⟩:=bind_some h
     obtain ⟨rfl,rfl⟩:=ze g
     simp only [Bool.and_eq_true] at hc
     obtain ⟨i,z',hi,hz',hzs,hpos,hby⟩:=zhb hc.1
     obtain ⟨i2,v2,hi2,hv2,hl⟩:=zfY (w:=w) (S:=S) (T:=T) (hp:=hp) (m:=m) hz
     rw [hi] at hi2;cases hi2
     rw [hz'] at hv2;cases hv2
     have hsz:=zet hi
     obtain ⟨d1,d2⟩:=zi7 hds
     have hdl:ds.length=i.size:=by rw [← hsz];exact zC hc.2
     obtain rfl:n=n':=by simpa using hn
     simp only [inM,decide_eq_true_eq] at hm
     have e1:=za6 hu
     have e2:=za6 hv
     subst e1 e2
     have hnn:((n.toNat:Nat):Int)=n:=Int.toNat_of_nonneg hm.1
     have hb':(i.bytes:Int) * n≤281474976710656:=by
      rw [← hnn]
      have:i.bytes * n.toNat≤128 * 1099511627776:=Nat.mul_le_mul hby (by omega)
      have h2:((i.bytes * n.toNat:Nat):Int)≤281474976710656:=by omega
      rwa [Int.natCast_mul] at h2
     have hr:=run_make (P:=P) w t e i z' (zbB he) hi hz' k k' n n hm.1 (Int.le_refl _) hb' (by omega)
     have hlen:(zbi n ds).length=n.toNat:=by simp [zbi]
     have hcl:∃ G R,Cl base w S T hp m G∧Rsv base S T G R∧(0 < (zb3 P 8 e,0,0).1→∀ j c d u,zk (zbi n ds) j c=some d→(madeCells z'.cells (n.toNat * i.size))[j * szOf P e+c]? = some u→Fo (zb3 P 8 e,0,0).1 w u d (R j c)):=by
      obtain ⟨G,hG⟩:=hI.cl
      refine ⟨G,_,hG,Rsv.none,fun _ j c d u hd _=>?_⟩
      obtain ⟨row,hrow,hk⟩:=zav hd
      simp only [zbi] at hrow
      obtain ⟨hjn,rfl⟩:=zfO hrow
      obtain ⟨a',ha',hza⟩:=d2 c d hk
      exact zmS hza _ _ _
     obtain ⟨m',s2,hl2⟩:=ziO (c:=madeCells z'.cells (n.toNat * i.size)) hI hcl (sz:=szOf P e) (fun j row hj=>by
       simp only [zbi] at hj
       obtain ⟨_,rfl⟩:=zfO hj
       rw [hdl,hsz]) (by rw [size_madeCells,hlen,hsz]) (fun j c d hd=>by
       obtain ⟨row,hrow,hk⟩:=zav hd
       simp only [zbi] at hrow
       obtain ⟨hjn,rfl⟩:=zfO hrow
       obtain ⟨a',ha',hza⟩:=d2 c d hk
       obtain ⟨u',hu',hlc⟩:=hl.2 c a' ha'
       obtain ⟨q1,q2⟩:=zmT hza hlc
       refine ⟨q1,u',?_,q2⟩
       have hcs:c < i.size:=by rw [← hdl];exact (List.getElem?_eq_some_iff.1 hk).1
       have hlt:j * i.size+c < n.toNat * i.size:=by
        have:(j+1) * i.size≤n.toNat * i.size:=Nat.mul_le_mul_right _ hjn
        rw [Nat.succ_mul] at this;omega
       rw [hsz]
       simp only [madeCells,Array.getElem?_map,Array.getElem?_range,hlt,if_true,Option.map_some,hzs]
       rw [Nat.mul_comm j,Nat.mul_add_mod,Nat.mod_eq_of_lt hcs]
       rw [getElem!_def,hu'])
      (by rw [hlen];simp only [maxLen];omega) hnew
     rw [hlen] at hl2
     exact ⟨_,_,m',hr,s2,hl2⟩
    ·cases h
   ·cases h
  ·cases h
 ·cases h
theorem zmw {cs:List AV} {vs:Array Value} (h:cs.all zm5=true) (hl:Leaves (AC w S T hp m) vs cs):Leaves (capC w S T hp m) vs cs:=by
 refine ⟨hl.1,fun j b hb=>?_⟩
 obtain ⟨u,hu,hc⟩:=hl.2 j b hb
 have:=List.all_eq_true.1 h b (List.mem_of_getElem? hb)
 refine ⟨u,hu,?_⟩
 cases b<;>first | cases this;done | exact hc
theorem ziS (hT:TmOk w S T hp m tm a.tmps) {p:Option Operand} {n:Option Int} (h:zdD (zI tm) p=some n):Bnd n (p.map a.eval):=by
 unfold zdD at h
 split at h
 ·cases h;trivial
 ·rename_i q
  split at h
  ·rename_i k n' hq
   cases h
   exact ⟨k,za6 (zT hT hq)⟩
  ·cases h
theorem zkk {R:Value→AV→Prop} {xs:Array Operand} {f:Operand→Value} {b1 b2:AV} {u1 u2:Value} (hl:Leaves R (xs.toList.map f).toArray [b1,b2]) (hu1:(xs.toList.map f).toArray[0]? = some u1) (hu2:(xs.toList.map f).toArray[1]? = some u2):xs.map f=#[u1,u2]:=by
 have hsz:(xs.toList.map f).length=2:=hl.1
 have e1:(xs.toList.map f)[0]? = some u1:=by rw [← hu1];simp
 have e2:(xs.toList.map f)[1]? = some u2:=by rw [← hu2];simp
 rw [← Array.toArray_toList (xs:=xs.map f),Array.toList_map]
 generalize xs.toList.map f=L at *
 match L,hsz with
 | [p,q],_ =>
  simp only [List.getElem?_cons_zero,List.getElem?_cons_succ,Option.some.injEq] at e1 e2
  rw [e1,e2]
def zdy:Op→Bool
 | .call c=>match c.callee with | .value _=>true | _=>false
 | _=>false
theorem zmH (hI:Inv base w0 w S0 S T hp m) (hT:TmOk w S T hp m tm a.tmps) (hnc:zdy o.op=false) (h:(zcJ P sig (zI tm) o.dst o.op o.type).run call hp l=some (x,hp',l')):Good P base w0 w S0 S T hp m o a x hp':=by
 obtain ⟨dst,op,type,pos,after,guard⟩:=o
 cases op<;>simp only [zcJ] at h<;>try (cases h;done)
 case move y =>
  split at h
  ·rename_i v hv
   obtain ⟨rfl,rfl⟩:=ze h
   exact Good.here hI rfl (ziD (zT hT hv))
  ·cases h
 case assign y =>
  split at h
  ·rename_i v hv
   obtain ⟨rfl,rfl⟩:=ze h
   exact Good.here hI rfl (ziD (zT hT hv))
  ·cases h
 case pick c p q =>
  split at h
  ·rename_i t hc
   have hb:=zca (zT hT hc)
   cases t with
   | true =>
    obtain ⟨hx,rfl⟩:=zeg (show (HA.of (zI tm p)).run call hp l=_ from h)
    exact Good.here hI (by simp [execOp,hb,asBool]) (zT hT hx)
   | false =>
    obtain ⟨hx,rfl⟩:=zeg (show (HA.of (zI tm q)).run call hp l=_ from h)
    exact Good.here hI (by simp [execOp,hb,asBool]) (zT hT hx)
  ·cases h
 case alloc e =>
  split at h
  ·rename_i z hz
   obtain ⟨i,v,hi,hv,hl⟩:=zfY (w:=w) (S:=S) (T:=T) (hp:=hp) (m:=m) hz
   obtain ⟨_,h1,l1,hn,g⟩:=bind_some h
   obtain ⟨rfl,rfl⟩:=ze g
   obtain ⟨m',s1,hx⟩:=ziP hI hl hn e
   exact Good.value (by simp [execOp,Instr.alloc,zeroValue,typeInfo,hi,hv,newVar,newRow]) s1 (AC.leaf hx)
  ·cases h
 case box e y =>
  split at h
  ·rename_i v hv
   obtain ⟨_,h1,l1,hn,g⟩:=bind_some h
   obtain ⟨rfl,rfl⟩:=ze g
   obtain ⟨m',s1,hx⟩:=ziP hI (zbR (zg9 hT hv)) hn e
   exact Good.value (by simp [execOp,Instr.box,newVar,newRow]) s1 (AC.leaf hx)
  ·cases h
 case build t ps =>
  split at h
  ·rename_i z pl hz hpl
   obtain ⟨hs,h⟩:=zB h
   split at h
   ·rename_i cs hf
    obtain ⟨rfl,rfl⟩:=ze h
    obtain ⟨r,hr,hx⟩:=zmn hT hz hpl hs hf
    exact Good.of_run rfl hr (Step.refl hI) hx
   ·cases h
  ·cases h
 case buildSlice t len ps =>
  split at h
  ·split at h
   ·rename_i e he hps
    obtain ⟨hi,h⟩:=zB h
    obtain ⟨rfl,rfl⟩:=ze h
    obtain ⟨i,hi⟩:=Option.isSome_iff_exists.1 hi
    obtain rfl:ps=#[]:=by cases ps;simp only [] at hps;rw [hps]
    obtain ⟨q1,q2⟩:=hI.world (w':=w.alloc (.cells #[] e)) ⟨rfl,rfl,rfl,by simp,fun k hk=>Below.heap_alloc w _ k hk⟩
    have hr:(Instr.buildSlice t 0 #[]).run P w=.ok (.slice (some ⟨w.heap.size,0,none⟩) 0 0) (w.alloc (.cells #[] e)):=by
     simp [Instr.buildSlice,run_underlying (zbB he),Go.sizeOf,typeInfo,hi,Instr.fill,newRow]
     congr 2
     apply Array.eq_empty_of_size_eq_zero
     simp
    exact Good.value (v:=.slice (some ⟨w.heap.size,0,none⟩) 0 0) (w':=w.alloc (.cells #[] e)) (by simp [execOp,hr]) (S':=S) (m':=m) ⟨q1,fun _ h=>h,by simp,q2⟩ ⟨_,rfl⟩
   ·cases h
  ·rename_i hlen
   split at h
   ·rename_i e pl he hpl
    split at h
    ·rename_i hc
     obtain ⟨r,w',S',m',hr,s1,hx⟩:=zi9 hI hT he hpl (fun e=>by subst e;exact hlen rfl) hc h
     exact Good.of_run rfl hr s1 (AC.leaf hx)
    ·cases h
   ·cases h
 case load t y =>
  split at h
  ·rename_i v hv
   obtain ⟨rfl,r,hr,hx⟩:=zkO (P:=P) hI (zT hT hv) h
   exact Good.of_run rfl hr (Step.refl hI) (AC.val hx)
  ·cases h
 case store t y z =>
  split at h
  ·rename_i v u hv hu
   obtain ⟨_,h1,l1,hs,g⟩:=bind_some h
   obtain ⟨rfl,rfl⟩:=ze g
   obtain ⟨w',S',hr,s1⟩:=zmP (P:=P) hI (zT hT hv) (zg9 hT hu) hs
   exact Good.skip (by simp [execOp,hr]) rfl s1
  ·cases h
 case binOp op t y z yt =>
  split at h
  ·rename_i v u hv hu
   obtain ⟨rfl,r,hr,hx⟩:=zml (P:=P) (p:=y) (q:=z) (zT hT hv) (zT hT hu) h
   exact Good.of_run rfl hr (Step.refl hI) (AC.leaf hx)
  ·cases h
 case unOp op t y =>
  split at h
  ·rename_i v hv
   obtain ⟨rfl,r,hr,hx⟩:=znP (P:=P) (zT hT hv) h
   exact Good.of_run rfl hr (Step.refl hI) (AC.leaf hx)
  ·cases h
 case convert src dst y =>
  split at h
  ·rename_i v hv
   obtain ⟨rfl,r,hr,hx⟩:=znu (P:=P) hI (zT hT hv) h
   exact Good.of_run rfl hr (Step.refl hI) (AC.leaf hx)
  ·cases h
 case makeFunc fn first caps =>
  split at h
  ·rename_i f l hfi hca
   obtain ⟨hc,h⟩:=zB h
   obtain ⟨rfl,rfl⟩:=ze h
   have hl:=zmw hc (zdM hT hca)
   obtain rfl:first=#[]:=by cases first;simp only [] at hfi;rw [hfi]
   refine Good.of_run rfl (r:=.func (.func f) #[] (caps.map a.eval)) (by simp [Instr.makeFunc]) (Step.refl hI) ⟨_,rfl,?_,?_⟩
   ·simpa using hl.1
   ·intro j b hb
    obtain ⟨u,hu,hr⟩:=hl.2 j b hb
    exact ⟨u,by simpa using hu,hr⟩
  ·cases h
 case slice t y lo hi mx =>
  split at h
  ·rename_i v l1 h1 hv hlo hhi
   obtain ⟨r,S',hr,s1,hx⟩:=zmd (P:=P) hI (ziS hT hlo) (ziS hT hhi) (zcb (zT hT hv)) h
   exact Good.of_run rfl hr s1 (AC.leaf hx)
  ·cases h
 case makeSlice t y z =>
  split at h
  ·rename_i v u hv hu
   obtain ⟨r,w',m',hr,s1,hx⟩:=zmA (P:=P) hI (zT hT hv) (zT hT hu) h
   exact Good.of_run rfl hr s1 (AC.leaf hx)
  ·cases h
 case fieldAddr t y f =>
  split at h
  ·rename_i v hv
   obtain ⟨rfl,r,hr,hx⟩:=zlM (P:=P) (zT hT hv) h
   exact Good.of_run rfl hr (Step.refl hI) (AC.leaf hx)
  ·cases h
 case indexAddr t y i =>
  split at h
  ·rename_i v u hv hu
   obtain ⟨rfl,r,hr,hx⟩:=zlR (P:=P) (zcb (zT hT hv)) (zT hT hu) h
   exact Good.of_run rfl hr (Step.refl hI) (AC.leaf hx)
  ·cases h
 case index t y i =>
  split at h
  ·rename_i s k n hv hu
   obtain ⟨hs,h⟩:=zB h
   obtain ⟨hn,h⟩:=zbD h
   obtain ⟨rfl,rfl⟩:=ze h
   have h2:=za6 (zT hT hu)
   exact Good.of_run rfl (by rw [h2];exact zlS hs (zT hT hv) hn) (Step.refl hI) (.int _ _)
  ·cases h
 case extract y i =>
  split at h
  ·rename_i vs hv
   obtain ⟨hx,rfl⟩:=zeg h
   obtain ⟨us,hu,hl⟩:=zT hT hv
   obtain ⟨r,hr,hc⟩:=hl.2 i x hx
   exact Good.of_run rfl (r:=r) (by rw [hu];simp [Instr.extract,hr]) (Step.refl hI) (AC.val hc)
  ·cases h
 case nilCheck y =>
  split at h
  ·rename_i id off hv
   obtain ⟨rfl,rfl⟩:=ze h
   have hc:=zT hT hv
   obtain ⟨h1,b,hm,hr⟩:=hc
   exact Good.here hI (v:=zb0 b off) (by simp [execOp,hr,zb0]) ⟨h1,b,hm,rfl⟩
  ·cases h
 case call c =>
  split at h
  ·cases h
  ·rename_i args hargs
   have hl:=zdM hT hargs
   split at h
   ·rename_i f hc
    simp [zdy,hc] at hnc
   ·rename_i y _ hc
    simp [zdy,hc] at hnc
   ·rename_i hc
    split at h
    ·rename_i b t hb
     obtain ⟨u,hu,hx⟩:=hl.2 0 _ rfl
     obtain ⟨rfl,r,hr,hx⟩:=zny (P:=P) (t:=t) (ty:=type) (ats:=c.argTypes) (vs:=c.args.map a.eval) hb (by rw [← hu];simp) (zcb hx) h
     exact Good.value (v:=r) (w':=w) (by simp [execOp,resolve,hc,invoke,builtin,hr]) (Step.refl hI) (AC.leaf hx)
    ·cases h
   ·rename_i hc
    split at h
    ·rename_i k a0 k' b0
     obtain ⟨rfl,rfl⟩:=ze h
     obtain ⟨u1,hu1,hx1⟩:=hl.2 0 _ rfl
     obtain ⟨u2,hu2,hx2⟩:=hl.2 1 _ rfl
     have e1:=za6 hx1
     have e2:=za6 hx2
     have hvs:=zkk hl hu1 hu2
     exact Good.value (v:=.int k (maxI a0 b0)) (w':=w) (by
      simp only [execOp,resolve,hc,invoke,builtin,Sem.run_bind,Sem.run_pure,Result.andThen_ok,hvs,e1,e2,Builtin.max_,List.foldlM_cons,List.foldlM_nil,Builtin.max2,maxI]) (Step.refl hI) (.int _ _)
    ·cases h
   ·rename_i hc
    split at h
    ·rename_i k a0 k' b0
     obtain ⟨rfl,rfl⟩:=ze h
     obtain ⟨u1,hu1,hx1⟩:=hl.2 0 _ rfl
     obtain ⟨u2,hu2,hx2⟩:=hl.2 1 _ rfl
     have e1:=za6 hx1
     have e2:=za6 hx2
     have hvs:=zkk hl hu1 hu2
     exact Good.value (v:=.int k (minI a0 b0)) (w':=w) (by
      simp only [execOp,resolve,hc,invoke,builtin,Sem.run_bind,Sem.run_pure,Result.andThen_ok,hvs,e1,e2,Builtin.min_,List.foldlM_cons,List.foldlM_nil,Builtin.min2,minI]) (Step.refl hI) (.int _ _)
    ·cases h
   ·rename_i hc
    split at h
    ·rename_i b1 b2 t t' ht
     obtain ⟨he,h⟩:=zB h
     obtain rfl:=zC he
     obtain ⟨u1,hu1,hx1⟩:=hl.2 0 _ rfl
     obtain ⟨u2,hu2,hx2⟩:=hl.2 1 _ rfl
     obtain ⟨r,w',m',hr,s1,hx⟩:=zk0 (P:=P) (t:=t') (ty:=type) hI (zcb hx1) (zcb hx2) h
     have hats:c.argTypes=#[t',t']:=by rw [← Array.toArray_toList (xs:=c.argTypes),ht]
     have hvs:c.args.map a.eval=#[u1,u2]:=by
      have hsz:(c.args.toList.map a.eval).length=2:=hl.1
      have e1:(c.args.toList.map a.eval)[0]? = some u1:=by rw [← hu1];simp
      have e2:(c.args.toList.map a.eval)[1]? = some u2:=by rw [← hu2];simp
      rw [← Array.toArray_toList (xs:=c.args.map a.eval),Array.toList_map]
      generalize c.args.toList.map a.eval=L at *
      match L,hsz with
      | [p,q],_ =>
       simp only [List.getElem?_cons_zero,List.getElem?_cons_succ,Option.some.injEq] at e1 e2
       rw [e1,e2]
     exact Good.value (v:=r) (w':=w') (by
      simp only [execOp,resolve,hc,invoke,builtin,Sem.run_bind,Sem.run_pure,Result.andThen_ok,hats,hvs,hr]) s1 (AC.leaf hx)
    ·cases h
   ·cases h
end
end Ovi
namespace Ovi
open Go Go.RowKit
theorem zdQ {n:Nat} {xs:Rows} {i c:Nat} {x:D} (h:depR n xs=true) (hx:zk xs i c=some x):depD n x=true:=by
 unfold zk at hx
 obtain ⟨r,hr,hc⟩:=Option.bind_eq_some_iff.1 hx
 exact List.all_eq_true.1 (List.all_eq_true.1 h r (List.mem_of_getElem? hr)) x (List.mem_of_getElem? hc)
theorem zdP {n:Nat} {x:D} (h:depD n x=true):x.isFn=false:=by
 cases x with
 | fn f c=>cases n<;>simp [depD] at h
 | _=>rfl
theorem zdO {n sz:Nat} {xs:Rows} {i c:Nat} {x:D} (h:depD (n+1) (.list sz xs)=true) (hx:zk xs i c=some x):depD n x=true:=zdQ (n:=n) (by simpa [depD,depR] using h) hx
theorem Fo.up {w:World}:∀ {n m:Nat} {v:Value} {x:D} {B:Nat→Prop},depD n x=true→Fo n w v x B→Fo m w v x B
 | n,0,v,x,B,_,_=>True.intro
 | 0,m+1,v,x,B,hd,_=>by
  cases x with
  | list sz xs =>
   simp only [depD,List.isEmpty_iff] at hd
   exact .inl hd
  | _=>exact True.intro
 | n+1,m+1,v,x,B,hd,hf=>by
  cases x with
  | list sz xs =>
   rcases hf with hf | ⟨b,cap,cur,e,g,h1,h2,h3,h4,h5,h6,h7,h8,h9⟩
   ·exact .inl hf
   ·refine .inr ⟨b,cap,cur,e,g,h1,h2,h3,h4,h5,h6,h7,h8,fun i c y hy=>?_⟩
    obtain ⟨u,hu,hfu⟩:=h9 i c y hy
    exact ⟨u,hu,Fo.up (zdO hd hy) hfu⟩
  | _=>exact True.intro
theorem Fo.rd {w:World} {S T T':Nat→Prop}:∀ {n:Nat} {v:Value} {x:D} {B:Nat→Prop},depD n x=true→Fo n w v x B→RD w S T v x→RD w B T' v x:=by
 intro n
 induction n with
 | zero =>
  intro v x B hd hf hr
  cases hr with
  | int k z=>exact .int k z
  | bool b=>exact .bool b
  | str b=>exact .str b
  | list A cap sz xs g h1 h3 h4 h5 h6 =>
   simp only [depD,List.isEmpty_iff] at hd
   subst hd
   exact .list A cap sz [] g h1 h3 (fun i c x hx=>by simp [zk] at hx) (fun i c x hx=>by simp [zk] at hx) (fun i c x hx=>by simp [zk] at hx)
  | fn f vs caps g h1 h4 h5=>simp [depD] at hd
 | succ n ih =>
  intro v x B hd hf hr
  cases hr with
  | int k z=>exact .int k z
  | bool b=>exact .bool b
  | str b=>exact .str b
  | fn f vs caps g h1 h4 h5=>simp [depD] at hd
  | list A cap sz xs g h1 h3 h4 h5 h6 =>
   rcases hf with hf | ⟨b,cap',cur,e,g',k1,k2,k3,k4,k5,k6,k7,k8,k9⟩
   ·subst hf
    exact .list A cap sz [] g h1 h3 (fun i c x hx=>by simp [zk] at hx) (fun i c x hx=>by simp [zk] at hx) (fun i c x hx=>by simp [zk] at hx)
   ·injection k1 with e1 e2 e3
    subst e1
    refine .list _ cap sz xs g h1 h3 (fun i c x hx=>?_) (fun i c x hx=>?_) h6
    ·obtain ⟨ad,ha,hs,hc⟩:=h4 i c x hx
     exact ⟨ad,ha,by cases ha;exact k6,hc⟩
    ·obtain ⟨ad,ha,hs,hc⟩:=h4 i c x hx
     cases ha
     obtain ⟨u,hu,hfu⟩:=k9 i c x hx
     rw [add_at] at hc
     simp only [World.cell?, k2,Nat.zero_add] at hc
     simp only [Option.isSome_none,Bool.false_eq_true,if_false] at hc
     rw [hu] at hc
     cases hc
     exact (ih (zdO hd hx) hfu (h5 i c x hx)).mono (Stab.refl _ _) (Stab.refl _ _) (fun k hk=>(k7 i c k hk).1) fun _ h=>h
end Ovi
namespace Ovi
open Go Go.RowKit
section
variable {base:Nat} {w0 w w':World} {S0 S S' S'' T T':Nat→Prop} {hp:Hp} {m:MapM}
theorem Cl.moreS {G:Nat→Nat→Nat→Nat→Prop} (h:Cl base w S T hp m G) (hs:∀ k,S k→S' k):Cl base w S' T hp m G :=
 h.mono (Stab.refl _ _) hs fun id e sz ver xs d lo cv b cur h1 h2 h3 h4=>⟨ver,d,lo,cv,h1,Nat.le_refl _,Nat.le_refl _,h3,h4⟩
theorem Inv.moreS (h:Inv base w0 w S0 S T hp m) (hs:∀ k,S k→S' k) (hn:∀ k,S' k→S k∨(base≤k∧k < w.heap.size∧∀ id,hot (hp id)=true→m id≠some k)) :
  Inv base w0 w S0 S' T hp m∧∀ v a,leafC w S T hp m v a→leafC w S' T hp m v a:=by
 have hext:∀ v a,leafC w S T hp m v a→leafC w S' T hp m v a:=fun v a ha =>
  leafC.same (Stab.refl _ _) (Stab.refl _ _) hs (fun i hi=>⟨rfl,rfl,fun b cur e hho hm hc=>hc⟩) ha
 refine ⟨{ below:=h.below,bsz:=h.bsz,tlt:=fun k hk=>(h.tlt k hk).imp (fun h=>h) (hs k),s0:=fun k hk=>hs k (h.s0 k hk),s1:=fun k hk=>?_,s0lt:=h.s0lt,slt:=fun k hk=>?_,rng:=fun i b hho hm=>?_,inj:=h.inj,var:=fun i cs hcs=>?_,arr:=fun i e sz ver xs q hx=>?_,cl:=let ⟨G,hG⟩:=h.cl;⟨G,hG.moreS hs⟩ },hext⟩
 ·rcases hn k hk with hk | hk
  ·exact h.s1 k hk
  ·exact .inr hk.1
 ·rcases hn k hk with hk | hk
  ·exact h.slt k hk
  ·exact hk.2.1
 ·obtain ⟨h1,h2,h3⟩:=h.rng i b hho hm
  refine ⟨h1,h2,fun hk=>?_⟩
  rcases hn b hk with hk | hk
  ·exact h3 hk
  ·exact hk.2.2 i hho hm
 ·obtain ⟨b,c,e,hm,hc,hl⟩:=h.var i cs hcs
  exact ⟨b,c,e,hm,hc,hl.mono hext⟩
 ·obtain ⟨h1,h2⟩:=h.arr i e sz ver xs q hx
  refine ⟨h1,?_⟩
  cases hm:m i with
  | none=>rw [hm] at h2;exact h2
  | some b =>
   rw [hm] at h2
   obtain ⟨cur,hc,hl,hq⟩:=h2
   exact ⟨cur,hc,hl,fun i k x hk=>⟨(hq i k x hk).1,let ⟨v,hv,hr⟩:=(hq i k x hk).2;⟨v,hv,hr.mono (Stab.refl _ _) (Stab.refl _ _) hs fun _ h=>h⟩⟩⟩
theorem Inv.adopt (h:Inv base w0 w S0 S T hp m) {id b e sz:Nat} {xs:Rows} {q:Cm} {c:Array Value} (hcl:∃ G',Cl base w S T (updH hp id (some (.arr e sz 0 xs q))) (updM m id (some b)) G') (hid:hp id=none) (hb:base≤b) (hS:¬ S b) (hf:∀ i,hot (hp i)=true→m i≠some b) (hc:w.heap[b]? = some (.cells c e (0,0)))
  (h1:∀ (i:Nat) (x:List D),xs[i]? = some x→x.length=sz) (h2:xs.length * sz≤c.size) (h3:∀ i k x,zk xs i k=some x→x.isFn=false∧∃ v,c[i * sz+k]? = some v∧RD w S T v x) :
  Inv base w0 w S0 S T (updH hp id (some (.arr e sz 0 xs q))) (updM m id (some b)) ∧
  ∀ v a,leafC w S T hp m v a→leafC w S T (updH hp id (some (.arr e sz 0 xs q))) (updM m id (some b)) v a:=by
 have hext:∀ v a,leafC w S T hp m v a→leafC w S T (updH hp id (some (.arr e sz 0 xs q))) (updM m id (some b)) v a:=by
  intro v a ha
  refine leafC.same (Stab.refl _ _) (Stab.refl _ _) (fun _ h=>h) (fun i hi=>?_) ha
  have hne:i≠id:=fun e=>by rw [e,hid] at hi;cases hi
  exact ⟨zA hne,zP hne,fun b cur e' hho hm hb=>hb⟩
 have hne:∀ {i:Nat},i≠id→hot (updH hp id (some (.arr e sz 0 xs q)) i)=true→hot (hp i)=true:=fun hi hx=>by rwa [zA hi] at hx
 refine ⟨{ below:=h.below,bsz:=h.bsz,tlt:=h.tlt,s0:=h.s0,s1:=h.s1,s0lt:=h.s0lt,slt:=h.slt,rng:=fun i b' hho hm=>?_,inj:=fun i j b' hi hj hmi hmj=>?_,var:=fun i cs hcs=>?_,arr:=fun i e' sz' ver' xs' q' hx=>?_,cl:=hcl },hext⟩
 ·by_cases hi:i=id
  ·subst hi
   rw [zH] at hm
   cases hm
   exact ⟨hb,z6 hc,hS⟩
  ·rw [zP hi] at hm
   exact h.rng i b' (hne hi hho) hm
 ·by_cases h1:i=id
  ·by_cases h2:j=id
   ·exact h1.trans h2.symm
   ·subst h1
    rw [zH] at hmi
    cases hmi
    rw [zP h2] at hmj
    exact absurd hmj (hf j (hne h2 hj))
  ·by_cases h2:j=id
   ·subst h2
    rw [zH] at hmj
    cases hmj
    rw [zP h1] at hmi
    exact absurd hmi (hf i (hne h1 hi))
   ·rw [zP h1] at hmi
    rw [zP h2] at hmj
    exact h.inj i j b' (hne h1 hi) (hne h2 hj) hmi hmj
 ·have hi:i≠id:=fun e=>by rw [e,zr] at hcs;injection hcs with hcs;cases hcs
  rw [zA hi] at hcs
  obtain ⟨b',c',e',hm,hc',hl⟩:=h.var i cs hcs
  exact ⟨b',c',e',(zP hi).trans hm,hc',hl.mono hext⟩
 ·by_cases hi:i=id
  ·subst hi
   rw [zr] at hx
   cases hx
   refine ⟨h1,?_⟩
   rw [zH]
   exact ⟨c,hc,h2,h3⟩
  ·rw [zA hi] at hx
   obtain ⟨q1,q2⟩:=h.arr i e' sz' ver' xs' q' hx
   exact ⟨q1,by rw [zP hi];exact q2⟩
def rowC (w:World) (S T:Nat→Prop) (B:Nat) (mo:Option Nat) (e sz:Nat) (xs:Rows) (u:Value):Prop :=
 (∀ (i:Nat) (x:List D),xs[i]? = some x→x.length=sz)∧OwnC w mo e sz u xs.length∧match mo with
 | none=>xs=[]
 | some b=>B≤b∧¬ S b∧∃ cur,w.heap[b]? = some (.cells cur e (0,0))∧xs.length * sz≤cur.size∧∀ i c x,zk xs i c=some x→x.isFn=false∧∃ v,cur[i * sz+c]? = some v∧RD w S T v x
def rlC (w:World) (S T:Nat→Prop) (B:Nat) (mo:Option Nat) (u:Value):RL→Prop
 | .d x=>RD w S T u x
 | .row e sz xs=>rowC w S T B mo e sz xs u
 | .frow e sz _ xs=>rowC w S T B mo e sz xs u
 | .nil=>∃ A,u=.slice A 0 0
def zZ:Option RL→Bool
 | some (.row _ _ _)=>true
 | some (.frow _ _ _ _)=>true
 | _=>false
def zR (r:Res) (i j:Nat):Option RL:=(r[i]?).bind fun x=>x.2[j]?
def oneC (w:World) (S T:Nat→Prop) (B:Nat) (mr:Nat→Option Nat) (u:Value) (r:Bool × List RL):Prop :=
 match r with
 | (true,ls)=>∃ cs,u=.agg cs∧cs.size=ls.length∧∀ (j:Nat) l,ls[j]? = some l→∃ q,cs[j]? = some q∧rlC w S T B (mr j) q l
 | (false,ls)=>∃ l,ls=[l]∧rlC w S T B (mr 0) u l
def frC (w:World) (S:Nat→Prop) (B:Nat) (mr:Nat→Nat→Option Nat) (r:Res):Prop :=
 ∃ RR:Nat→Nat→Nat→Nat→Nat→Prop,(∀ i j a c k,RR i j a c k→S k∧B≤k)∧(∀ i j a c i' j' a' c' k,RR i j a c k→RR i' j' a' c' k→(i=i'∧j=j')∧a=a'∧c=c') ∧
  ∀ i j e sz d xs,zR r i j=some (.frow e sz d xs)→∀ b cur,mr i j=some b→w.heap[b]? = some (.cells cur e (0,0))→∀ a c x u,zk xs a c=some x→cur[a * sz+c]? = some u→Fo d w u x (RR i j a c)
def hasF (r:Res):Bool:=r.any fun p=>p.2.any fun | .frow _ _ _ _=>true | _=>false
theorem frC.none {w:World} {S:Nat→Prop} {B:Nat} {mr:Nat→Nat→Option Nat} {r:Res} (h:hasF r=false):frC w S B mr r:=by
 refine ⟨fun _ _ _ _ _=>False,fun _ _ _ _ _ h=>h.elim,fun _ _ _ _ _ _ _ _ _ h=>h.elim,fun i j e sz d xs hl=>?_⟩
 exfalso
 unfold zR at hl
 obtain ⟨p,hp,hj⟩:=Option.bind_eq_some_iff.1 hl
 have h1:=List.any_eq_false.1 h p (List.mem_of_getElem? hp)
 simp only [Bool.not_eq_true,List.any_eq_false] at h1
 have:=h1 _ (List.mem_of_getElem? hj)
 simp at this
def resC (w:World) (S T:Nat→Prop) (B:Nat) (mr:Nat→Nat→Option Nat) (v:Value) (r:Res):Prop :=
 (∃ vs:List Value,(match vs with | [u]=>v=u | _=>v=.tuple vs.toArray)∧vs.length=r.length∧∀ (i:Nat) x,r[i]? = some x→∃ u,vs[i]? = some u∧oneC w S T B (mr i) u x) ∧
 ∀ i j i' j' b,zZ (zR r i j)=true→zZ (zR r i' j')=true→mr i j=some b→mr i' j'=some b→i=i'∧j=j'
def zfM (w w':World) (mo:Option Nat) (e sz:Nat) (xs ys:Rows):Prop :=
 ∀ b cur cur',mo=some b→w.heap[b]? = some (.cells cur e (0,0))→w'.heap[b]? = some (.cells cur' e (0,0))→∃ π:Nat→Nat,(∀ i i',i < ys.length→i' < ys.length→π i=π i'→i=i') ∧
  ∀ i,i < ys.length→∀ c x,zk ys i c=some x→zk xs (π i) c=some x∧(cur'[i * sz+c]? = cur[π i * sz+c]? ∨ ∃ s,x=.list s [])
def zaE (P:Program) (f:FuncId):Prop:=∃ fn,P.funcs[f]? = some fn∧fn.body.isSome=true∧(fn.name == "runtime.NumGoroutine")=false
structure Gd where
 pr:(Nat→Prop)→World→Prop
 stab:∀ {S S':Nat→Prop} {w w':World},pr S w→(∀ k,S k→S' k)→Stab S w w'→pr S' w'
def noG:Gd:=⟨fun _ _=>True,fun _ _ _=>True.intro⟩
def zax (P:Program) (G:Gd) (f:FuncId) (args:Args) (r:Res):Prop :=
 ∀ (w:World) (S T:Nat→Prop) (vs:Array Value),(∀ k,S k→k < w.heap.size)→(∀ k,T k→k < w.heap.size)→Leaves (AC w S T (fun _=>none) (fun _=>none)) vs args→G.pr S w →
  Calls P f vs w fun e w'=>∃ v S' mr,e=.returned v∧Below w.heap.size w w'∧(∀ k,S k→S' k)∧(∀ k,S' k→S k∨(w.heap.size≤k∧k < w'.heap.size))∧resC w' S' T w.heap.size mr v r∧frC w' S' w.heap.size mr r
def zjx (w:World) (mo:Option Nat) (e:TypeId) (w':World):Prop:=match mo with
 | none=>Below w.heap.size w w'
 | some b=>∃ cur cur',w.heap[b]? = some (.cells cur e (0,0))∧cur'.size=cur.size∧Below w.heap.size (zag w b cur' e) w'
def zoW (w w':World) (S T:Nat→Prop) (mo:Option Nat) (e sz:Nat) (xs:Rows) (u v:Value):Res→Prop
 | [(false,[.row e' sz' ys])]=>e'=e∧sz'=sz→ys.length=xs.length∧v=.tuple #[]∧rowC w' S T 0 mo e sz ys u
 | [(false,[.row e' sz' ys]),_]=>e'=e∧sz'=sz→rowC w' S T 0 mo e sz ys v
 | [(false,[.frow e' sz' _ ys])]=>e'=e∧sz'=sz→(ys.length=xs.length∧v=.tuple #[]∧rowC w' S T 0 mo e sz ys u)∧zfM w w' mo e sz xs ys
 | [(false,[.frow e' sz' _ ys]),_]=>e'=e∧sz'=sz→rowC w' S T 0 mo e sz ys v∧zfM w w' mo e sz xs ys
 | _=>False
def zpb (P:Program) (f:FuncId) (e sz:Nat) (xs:Rows) (rest:Args) (r:Res):Prop :=
 ∀ (w:World) (S T:Nat→Prop) (mo:Option Nat) (u:Value) (vs:Array Value),(∀ k,S k→k < w.heap.size)→(∀ k,T k→k < w.heap.size)→rowC w S T 0 mo e sz xs u→Leaves (AC w S T (fun _=>none) (fun _=>none)) vs rest →
  Calls P f (#[u]++vs) w fun ex w'=>∃ v,ex=.returned v∧zjx w mo e w'∧zoW w w' S T mo e sz xs u v r
def znI (w w':World) (mo mo':Option Nat) (e sz:Nat) (xs ys:Rows):Prop :=
 ∀ b cur b' cur',mo=some b→mo'=some b'→w.heap[b]? = some (.cells cur e (0,0))→w'.heap[b']? = some (.cells cur' e (0,0))→∃ π:Nat→Nat,(∀ i i',i < ys.length→i' < ys.length→π i=π i'→i=i') ∧
  ∀ i,i < ys.length→∀ c x,zk ys i c=some x→zk xs (π i) c=some x∧(cur'[i * sz+c]? = cur[π i * sz+c]? ∨ ∃ s,x=.list s [])
def RawN (P:Program) (f:FuncId) (e sz:Nat) (xs:Rows) (rest:Args) (r:Res):Prop :=
 ∃ (d:Nat) (ys:Rows) (z:Bool × List RL),r=[(false,[.frow e sz d ys]),z]∧(xs=[]→ys=[]) ∧
  ∀ (w:World) (S T:Nat→Prop) (mo:Option Nat) (u:Value) (vs:Array Value),(∀ k,S k→k < w.heap.size)→(∀ k,T k→k < w.heap.size)→rowC w S T 0 mo e sz xs u→Leaves (AC w S T (fun _=>none) (fun _=>none)) vs rest →
   Calls P f (#[u]++vs) w fun ex w'=>∃ v mo',ex=.returned v∧Below w.heap.size w w'∧(∀ b',mo'=some b'→w.heap.size≤b')∧rowC w' S T 0 mo' e sz ys v∧znI w w' mo mo' e sz xs ys
def RawC (P:Program) (f:FuncId) (e sz:Nat) (xs:Rows) (rest:Args) (r:Res):Prop:=zpb P f e sz xs rest r∨RawN P f e sz xs rest r
inductive MCell where
 | row (e sz:Nat) (xs:Rows) | any (x:D)
def encM:List MCell→Args
 | []=>[]
 | .row e sz xs::r=>.d (.int .i64 e)::.d (.list sz xs)::encM r
 | .any x::r=>.d x::encM r
def encR:List MCell→Res
 | []=>[]
 | .row e sz xs::r=>(false,[.row e sz xs])::encR r
 | .any _::r=>encR r
def D.scal:D→Bool
 | .int _ _=>true
 | .bool _=>true
 | .str _=>true
 | _=>false
def MCell.ok:MCell→Bool
 | .row _ _ _=>true
 | .any x=>x.scal
def za4:List MCell→List MCell→Prop
 | [],[]=>True
 | .row e sz xs::r,.row e' sz' xs'::r'=>e'=e∧sz'=sz∧xs'.length=xs.length∧za4 r r'
 | .any x::r,.any x'::r'=>x'=x∧za4 r r'
 | _,_=>False
def rowF (w:World) (T:Nat→Prop) (mo:Option Nat) (e sz:Nat) (xs:Rows) (u:Value) (G:Nat→Nat→Nat→Prop):Prop :=
 (∀ (i:Nat) (x:List D),xs[i]? = some x→x.length=sz)∧OwnC w mo e sz u xs.length∧match mo with
 | none=>xs=[]
 | some b=>∃ cur,w.heap[b]? = some (.cells cur e (0,0))∧∀ i c x,zk xs i c=some x→∃ v,cur[i * sz+c]? = some v∧RD w (G i c) T v x∧∃ n,depD n x=true∧Fo n w v x (G i c)
structure But (X:Nat→Prop) (w w':World):Prop where
 os:w'.os=w.os
 tape:w'.tape=w.tape
 output:w'.output=w.output
 size:w.heap.size≤w'.heap.size
 block:∀ k,k < w.heap.size→¬ X k→w'.heap[k]? = w.heap[k]?
 kind:∀ (k:Nat) (cur:Array Value) (e:TypeId),w.heap[k]? = some (Obj.cells cur e (0,0))→∃ cur':Array Value,w'.heap[k]? = some (Obj.cells cur' e (0,0))∧cur'.size=cur.size
theorem But.refl (X:Nat→Prop) (w:World):But X w w:=⟨rfl,rfl,rfl,Nat.le_refl _,fun _ _ _=>rfl,fun k cur e h=>⟨cur,h,rfl⟩⟩
theorem But.trans {X:Nat→Prop} {a b c:World} (h:But X a b) (k:But X b c):But X a c :=
 ⟨k.os.trans h.os,k.tape.trans h.tape,k.output.trans h.output,Nat.le_trans h.size k.size,fun i hi hx=>(k.block i (Nat.lt_of_lt_of_le hi h.size) hx).trans (h.block i hi hx),fun i cur e hc=>by
  obtain ⟨c1,h1,h2⟩:=h.kind i cur e hc
  obtain ⟨c2,h3,h4⟩:=k.kind i c1 e h1
  exact ⟨c2,h3,h4.trans h2⟩⟩
theorem But.mono {X Y:Nat→Prop} {a b:World} (h:But X a b) (hX:∀ k,X k→Y k):But Y a b:=⟨h.os,h.tape,h.output,h.size,fun k hk hn=>h.block k hk fun hx=>hn (hX k hx),h.kind⟩
theorem But.of_below {X:Nat→Prop} {a b:World} (h:Below a.heap.size a b):But X a b:=⟨h.os,h.tape,h.output,h.size,fun k hk _=>h.block k hk,fun k cur e hc=>⟨cur,(h.block k (z6 hc)).trans hc,rfl⟩⟩
abbrev GGs:=Nat→Nat→Nat→Nat→Prop
def Wr (mo:Nat→Option Nat) (GG:GGs):Nat→Prop:=fun b=>(∃ j,mo j=some b)∨∃ j i c,GG j i c b
def zje (w:World) (T:Nat→Prop) (cs:List MCell) (us:Array Value) (mo:Nat→Option Nat) (GG:GGs):Prop :=
 ∀ j e sz xs,cs[j]? = some (.row e sz xs)→∃ u,us[j]? = some u∧rowF w T (mo j) e sz xs u (GG j)
def zmU (P:Program) (f:FuncId) (b:Bool) (k:Int) (xs:Args) (r:Res):Prop :=
 ∀ cs:List MCell,xs=encM cs→cs.all MCell.ok=true→∃ cs' k',r=encR cs'++[(false,[.d (.int .i64 k')])]∧za4 cs cs' ∧
  ∀ (w:World) (T:Nat→Prop) (v:Value) (us:Array Value) (mo:Nat→Option Nat) (GG:GGs),(b=true→v=.agg us)→(b=false→us=#[v])→us.size=cs.length →
   (∀ j x,cs[j]? = some (.any x)→mo j=none∧∃ u,us[j]? = some u∧RD w T T u x)→zje w T cs us mo GG →
   (∀ j i c j' i' c' b,GG j i c b→GG j' i' c' b→j=j'∧i=i'∧c=c')→(∀ j j' b,mo j=some b→mo j'=some b→j=j')→(∀ j i c b,GG j i c b→b < w.heap.size∧∀ j',mo j'≠some b) →
   Calls P f #[v,.int .i64 k] w fun ex w'=>ex=.returned (.int .i64 k')∧But (Wr mo GG) w w'∧∃ GG':GGs,(∀ j i c b,GG' j i c b→∃ i' c',GG j i' c' b)∧(∀ j i c i' c' b,GG' j i c b→GG' j i' c' b→i=i'∧c=c')∧zje w' T cs' us mo GG'
structure Sound (P:Program) (G:Gd) (call:zi):Prop where
 known:∀ f args r,call f args=some r→zaE P f
 plain:∀ f args r,call f args=some r→zax P G f args r
 raw:∀ f k e sz xs rest r,call f (zak::.d (.int k e)::.d (.list sz xs)::rest)=some r→∀ e':Nat,e=e'→RawC P f e' sz xs rest r
 mark:∀ f b k xs r,call f (zak::.d (.bool b)::.d (.int .i64 k)::xs)=some r→zmU P f b k xs r
structure SoundAt (P:Program) (G:Gd) (call:zi) (w0:World) (S0:Nat→Prop):Prop where
 snd:Sound P G call
 tab:G.pr S0 w0
theorem Inv.gd {G:Gd} {base:Nat} {w0 w:World} {S0 S T:Nat→Prop} {hp:Hp} {m:MapM} (hI:Inv base w0 w S0 S T hp m) (h:G.pr S0 w0):G.pr S w :=
 G.stab h hI.s0 fun k hk=>hI.below.block k (hI.s0lt k hk)
variable {P:Program} {call:zi} {hp':Hp} {l l':Log}
theorem zbr {N:Nat} {b:Bool} {n:Nat} {r:Res} {i j:Nat} {x:RL} (h:zaf N b n r i j=some x):r.length=N∧∃ ls,r[i]? = some (b,ls)∧ls.length=n∧ls[j]? = some x:=by
 unfold zaf at h
 split at h
 ·rename_i hN
  obtain ⟨⟨b',ls⟩,h1,h2⟩:=Option.bind_eq_some_iff.1 h
  split at h2
  ·rename_i hc
   obtain ⟨rfl,rfl⟩:=hc
   exact ⟨hN,ls,h1,rfl,h2⟩
  ·cases h2
 ·cases h
theorem RD.nil (A:Option Addr) (sz:Nat):RD w S T (.slice A 0 0) (.list sz []) :=
 .list A 0 sz [] (fun _ _=>undef) (by simp) (fun i x hx=>by simp at hx) (fun i c x hx=>by simp [zk] at hx) (fun i c x hx=>by simp [zk] at hx) (fun i c x hx=>by simp [zk] at hx)
theorem rowC.rd {B:Nat} {mo:Option Nat} {e sz:Nat} {xs:Rows} {u:Value} (h:rowC w S T B mo e sz xs u) (hs:∀ k,S k→S' k) (hb:∀ b,mo=some b→S' b):RD w S' T' u (.list sz xs):=by
 obtain ⟨h1,h2,h3⟩:=h
 cases mo with
 | none =>
  subst h3
  obtain ⟨_,A,rfl⟩:=h2
  exact RD.nil A sz
 | some b =>
  obtain ⟨cap,cur,rfl,hc,h4,h5,h6⟩:=h2
  obtain ⟨_,_,cur',hc',h7,h8⟩:=h3
  rw [hc] at hc'
  cases hc'
  have hex:∀ p:Nat × Nat,∃ u:Value,∀ x,zk xs p.1 p.2=some x→x.isFn=false∧cur[p.1 * sz+p.2]? = some u∧RD w S T u x:=by
   rintro ⟨i,c⟩
   cases hx:zk xs i c with
   | none=>exact ⟨undef,fun x hx=>by cases hx⟩
   | some x =>
    obtain ⟨h0,u,hu,hr⟩:=h8 i c x hx
    exact ⟨u,fun y hy=>by injection hy with hy;subst hy;exact ⟨h0,hu,hr⟩⟩
  obtain ⟨g,hg⟩:=Classical.axiomOfChoice hex
  refine .list _ cap sz xs (fun i c=>g (i,c)) h4 h1 (fun i c x hx=>⟨_,rfl,hb b rfl,?_⟩) (fun i c x hx=>((hg (i,c) x hx).2.2.mono (Stab.refl _ _) (Stab.refl _ _) hs fun _ h=>h).noFn (hg (i,c) x hx).1) (fun i c x hx=>(hg (i,c) x hx).1)
  rw [add_at]
  simp only [World.cell?, hc,Nat.zero_add]
  exact (hg (i,c) x hx).2.1
end
end Ovi

/-
Towards the law: a machine that runs the program's own code on plain data, its soundness, the library by its contracts, and what the functions compute: part 3 (Any2 Ds In Ard Lib Okp Srt Pur Jn Hd Srf Mt Cmf Skw Raf Uqa Clk Clz Rsp Srg Cmg Rsg Uql Grd Mkw Mkd). No condition.
-/
import Derived.Test.YthicohakeljdcaaGreatQb
import Derived.DataReads
import Derived.WalkKit
import Derived.ProofKit
import Derived.OpenShut
import Derived.ShutString
import Derived.ChangeOld
import Derived.Tactics
import Derived.Sort.Grow
import Derived.Lib.SlicesCompact
import Derived.Lib.Join
import Derived.Lib.ItoaNum
import Derived.Lib.LaidTab
import Derived.Lib.AppendIntMem
import Derived.Shelf.SlSortCmp.Kit1
import Derived.Shelf.SlSortCmp.KitK
import Derived.Lib.SliceRun
import Derived.Shelf.SlicesE.Clone
set_option linter.unusedVariables false
set_option linter.unusedSimpArgs false
/-! Any2 -/
namespace Ovi
open Go Go.RowKit

section
variable {P : Program} {G : Gd} {call : CallF} {sig : FuncId → Sig} {base N : Nat} {w0 : World} {S0 T : Nat → Prop} {σ' : St} {Q : Exit → Act → World → Prop} {ops : Array Oper}
theorem ready_mem {listed : Array Bool} {i : Nat} : i ∈ Region.ready .any ops listed ↔ i < ops.size ∧ listed.getD i true = false ∧ ((ops[i]?).map (·.after.all fun e => !Region.binds .any e || listed.getD e.on false)).getD false = true := by
  unfold Region.ready
  simp only [List.mem_filter, List.mem_range, Bool.and_eq_true, Bool.not_eq_true']
theorem runOps_len : ∀ {os : List Oper} {σ : St} {ls : List Log}, runOps P sig call ops.toList os σ = some (σ', ls) → ls.length = os.length
  | [], σ, ls, h => by cases h; rfl
  | o :: r, σ, ls, h => by
    unfold runOps at h
    split at h
    · split at h
      · rename_i hr
        cases h
        simp [runOps_len hr]
      · cases h
    · cases h
def opsAt (ops : Array Oper) (rem : List Nat) : List Oper := rem.map fun i => ops.getD i default
/-- what is left of a region, in the text's order -/
structure Left (ops : Array Oper) (rem : List Nat) (listed : Array Bool) (ls : List Log) : Prop where
  size : listed.size = ops.size
  mem : ∀ i, i ∈ rem ↔ i < ops.size ∧ listed.getD i true = false
  ord : rem.Pairwise (· < ·)
  closed : ∀ k o, listed.getD k false = true → ops.toList[k]? = some o → ∀ e ∈ o.after.toList, bindsE e = true → listed.getD e.on false = true
  logs : ∀ (k k' i i' : Nat) l l', k < k' → rem[k]? = some i → rem[k']? = some i' → ls[k]? = some l → ls[k']? = some l' → clash l l' = false ∨ behind ops.toList 4 i' i = true
theorem wpAny_ok (hC : SoundAt P G call w0 S0) (hst : drawStat ops.toList = true) (hd : ops.toList.all (dstOk N) = true) (hQ : ∀ a' w', Rel base w0 S0 T N σ' a' w' → Q .normal a' w') : ∀ (fuel : Nat) (rem : List Nat) (listed : Array Bool) (σ : St) (a : Act) (w : World) (ls : List Log),
    rem.length ≤ fuel → Left ops rem listed ls → Rel base w0 S0 T N σ a w → runOps P sig call ops.toList (opsAt ops rem) σ = some (σ', ls) → wpAny P .any ops Q fuel listed a w := by
  simp only [drawStat, Bool.and_eq_true] at hst
  obtain ⟨hback, hapart⟩ := hst
  have getO : ∀ i, i < ops.size → ops[i]? = some (ops.getD i default) := fun i hi => by simp [hi]
  have empty : ∀ {rem : List Nat} {listed : Array Bool} {ls : List Log}, Left ops rem listed ls → Region.ready .any ops listed = [] → rem = [] := by
    intro rem listed ls hL hr
    cases rem with
    | nil => rfl
    | cons i r =>
      exfalso
      have hi := (hL.mem i).1 List.mem_cons_self
      have : i ∈ Region.ready .any ops listed := by
        rw [ready_mem]
        refine ⟨hi.1, hi.2, ?_⟩
        rw [getO i hi.1]
        simp only [Option.map_some, Option.getD_some, Array.all_eq_true']
        intro e he
        cases hb : Region.binds .any e with
        | false => rfl
        | true =>
          have hlt := edgesBack_ok hback i (ops.getD i default) (by simpa using getO i hi.1) e (by simpa using he) (by rw [bindsE_eq]; exact hb)
          rw [Nat.zero_add] at hlt
          have hnot : e.on ∉ i :: r := fun hm => by
            rcases List.mem_cons.1 hm with h | h
            · omega
            · have := List.rel_of_pairwise_cons hL.ord h; omega
          rw [hL.mem] at hnot
          have hsz : e.on < listed.size := by rw [hL.size]; omega
          have : listed.getD e.on true ≠ false := fun h => hnot ⟨by omega, h⟩
          simp only [Array.getD_eq_getD_getElem?, Array.getElem?_eq_getElem hsz, Option.getD_some] at this ⊢
          simpa using this
      rw [hr] at this
      cases this
  intro fuel
  induction fuel with
  | zero =>
    intro rem listed σ a w ls hf hL hR h
    obtain rfl : rem = [] := List.eq_nil_of_length_eq_zero (by omega)
    cases h
    refine ⟨?_, hQ a w hR⟩
    cases hr : Region.ready .any ops listed with
    | nil => rfl
    | cons i r =>
      have : i ∈ Region.ready .any ops listed := by rw [hr]; exact List.mem_cons_self
      rw [ready_mem] at this
      have := (hL.mem i).2 ⟨this.1, this.2.1⟩
      cases this
  | succ fuel ih =>
    intro rem listed σ a w ls hf hL hR h
    refine ⟨fun hr => ?_, fun i hi => ?_⟩
    · obtain rfl := empty hL hr
      cases h
      exact hQ a w hR
    · rw [ready_mem] at hi
      obtain ⟨hi1, hi2, hi3⟩ := hi
      have hmem := (hL.mem i).2 ⟨hi1, hi2⟩
      rw [getO i hi1] at hi3
      simp only [Option.map_some, Option.getD_some, Array.all_eq_true'] at hi3
      have hedge : ∀ e ∈ (ops.getD i default).after.toList, bindsE e = true → listed.getD e.on false = true := fun e he hb => by
        have := hi3 e (by simpa using he)
        rw [← bindsE_eq, hb] at this
        simpa using this
      obtain ⟨pre, post, rfl⟩ := List.append_of_mem hmem
      have hlen := runOps_len h
      simp only [opsAt, List.length_map, List.length_append, List.length_cons] at hlen
      obtain ⟨lp, l, lq, rfl, hlp⟩ : ∃ lp l lq, ls = lp ++ l :: lq ∧ lp.length = pre.length := by
        have h1 : pre.length < ls.length := by omega
        refine ⟨ls.take pre.length, ls[pre.length], ls.drop (pre.length + 1), ?_, by simp; omega⟩
        rw [List.getElem_cons_drop, List.take_append_drop]
      have unl : ∀ j, j ∈ pre ++ i :: post → listed.getD j false = true → False := fun j hj hl => by
        have h1 := (hL.mem j).1 hj
        have hsz : j < listed.size := by rw [hL.size]; exact h1.1
        have h2 := h1.2
        simp only [Array.getD_eq_getD_getElem?, Array.getElem?_eq_getElem hsz, Option.getD_some] at h2 hl
        rw [h2] at hl
        cases hl
      have nb : ∀ j, j ∈ pre ++ i :: post → behind ops.toList 4 i j = true → False := fun j hj hb =>
        unl j hj (behind_listed (L := fun k => listed.getD k false = true) hL.closed 4 i j (fun o ho => by
          have : ops.toList[i]? = some (ops.getD i default) := by simpa using getO i hi1
          rw [this] at ho
          cases ho
          exact hedge) hb)
      have hord : ∀ j ∈ pre, j < i := fun j hj => (List.pairwise_append.1 hL.ord).2.2 j hj i List.mem_cons_self
      obtain ⟨σ1, hstep, hrest⟩ := bubble (pre := opsAt ops pre) (post := opsAt ops post) (o := ops.getD i default) (lp := lp) (l := l) (lq := lq) (by simp [opsAt, hlp]) (fun k x lx hx hlx => by
        simp only [opsAt, List.getElem?_map, Option.map_eq_some_iff] at hx
        obtain ⟨j, hj, rfl⟩ := hx
        have hjm : j ∈ pre := List.mem_of_getElem? hj
        have hkl : k < pre.length := (List.getElem?_eq_some_iff.1 hj).1
        have hjs : j < ops.size := ((hL.mem j).1 (List.mem_append_left _ hjm)).1
        refine ⟨?_, ?_⟩
        · have := apartAll_ok hapart j i (ops.getD j default) (ops.getD i default) (hord j hjm) (by simpa using getO j hjs) (by simpa using getO i hi1)
          rw [Nat.zero_add, Nat.zero_add] at this
          exact this.resolve_left fun hb => nb j (List.mem_append_left _ hjm) hb
        · have := hL.logs k pre.length j i lx l hkl (by rw [List.getElem?_append_left hkl]; exact hj) (by rw [List.getElem?_append_right (Nat.le_refl _)]; simp) (by rw [List.getElem?_append_left (by omega)]; exact hlx) (by rw [List.getElem?_append_right (by omega), hlp]; simp)
          exact this.resolve_right fun hb => nb j (List.mem_append_left _ hjm) hb) (by simpa [opsAt] using h)
      have hni : ∀ j ∈ pre ++ post, j ≠ i := fun j hj => by
        have hp := List.pairwise_append.1 hL.ord
        rcases List.mem_append.1 hj with h | h
        · have := hord j h; omega
        · have := List.rel_of_pairwise_cons hp.2.1 h; omega
      have getset : ∀ (j : Nat) (d : Bool), j ≠ i → (listed.setIfInBounds i true).getD j d = listed.getD j d := fun j d hj => by
        simp only [Array.getD_eq_getD_getElem?, Array.getElem?_setIfInBounds_ne (Ne.symm hj)]
      have getself : ∀ d : Bool, (listed.setIfInBounds i true).getD i d = true := fun d => by
        simp only [Array.getD_eq_getD_getElem?, Array.getElem?_setIfInBounds_self_of_lt (by rw [hL.size]; exact hi1 : i < listed.size), Option.getD_some]
      have hL' : Left ops (pre ++ post) (listed.setIfInBounds i true) (lp ++ lq) := by
        refine ⟨by simpa using hL.size, fun j => ?_, ?_, fun k o hk ho e he hb => ?_, fun k k' j j' x x' hlt hj hj' hx hx' => ?_⟩
        · constructor
          · intro hj
            have h1 := (hL.mem j).1 (by rcases List.mem_append.1 hj with h | h; exact List.mem_append_left _ h; exact List.mem_append_right _ (List.mem_cons_of_mem _ h))
            exact ⟨h1.1, by rw [getset j true (hni j hj)]; exact h1.2⟩
          · intro hj
            by_cases hji : j = i
            · subst hji; rw [getself] at hj; cases hj.2
            · rw [getset j true hji] at hj
              have := (hL.mem j).2 hj
              rcases List.mem_append.1 this with h | h
              · exact List.mem_append_left _ h
              · rcases List.mem_cons.1 h with h | h
                · exact absurd h hji
                · exact List.mem_append_right _ h
        · exact hL.ord.sublist (List.Sublist.append_left (List.sublist_cons_self _ _) _)
        · by_cases hee : e.on = i
          · rw [hee]; exact getself false
          · rw [getset _ _ hee]
            by_cases hki : k = i
            · subst hki
              have : ops.toList[k]? = some (ops.getD k default) := by simpa using getO k hi1
              rw [this] at ho
              cases ho
              exact hedge e he hb
            · rw [getset _ _ hki] at hk
              exact hL.closed k o hk ho e he hb
        · have sh : ∀ {α : Type} (p q : List α) (c : α) (k : Nat) (y : α), p.length = pre.length → (p ++ q)[k]? = some y → (p ++ c :: q)[if k < pre.length then k else k + 1]? = some y := by
            intro α p q c k y hp hy
            by_cases hk : k < pre.length
            · rw [if_pos hk, List.getElem?_append_left (by omega)]
              rw [List.getElem?_append_left (by omega)] at hy
              exact hy
            · rw [if_neg hk, List.getElem?_append_right (by omega), show k + 1 - p.length = (k - p.length) + 1 by omega, List.getElem?_cons_succ]
              rw [List.getElem?_append_right (by omega)] at hy
              exact hy
          exact hL.logs _ _ j j' x x' (by split <;> split <;> omega) (sh pre post i k j rfl hj) (sh pre post i k' j' rfl hj') (sh lp lq l k x hlp hx) (sh lp lq l k' x' hlp hx')
      have hso : ops.toList.all (dstOk N) = true := hd
      have hdo : dstOk N (ops.getD i default) = true := List.all_eq_true.1 hd _ (List.mem_of_getElem? (by simpa using getO i hi1 : ops.toList[i]? = some _))
      unfold wpOp
      rw [getO i hi1]
      exact step_ok hC hdo hR hstep _ fun a' w' hR' => ih (pre ++ post) _ σ1 a' w' (lp ++ lq) (by simp only [List.length_append, List.length_cons] at hf ⊢; omega) hL' hR' (by simpa [opsAt] using hrest)
end
end Ovi
/-! Ds -/
namespace Ovi
open Go Go.RowKit
theorem drawSound {P : Program} {G : Gd} (hm : P.follows .mixedOrders = true) : DrawSound P G drawStat := by
  intro call sig base N w0 S0 T σ σ' a w id ops ls Q hC hst hd hR hrun hdr hQ
  refine wp_region_any hm ?_
  obtain ⟨h1, h2, S, m, hI, hT⟩ := hR
  obtain ⟨q1, q2⟩ := hI.world (w' := { w with drawn := w.drawn + 1 }) ⟨rfl, rfl, rfl, Nat.le_refl _, fun _ _ => rfl⟩
  have hall : opsAt ops (List.range ops.size) = ops.toList := by
    apply List.ext_getElem?
    intro k
    by_cases hk : k < ops.size
    · simp [opsAt, hk]
    · simp [opsAt, hk]
  refine wpAny_ok hC hst hd hQ ops.size (List.range ops.size) _ σ a _ ls (by simp) ⟨by simp, fun i => ?_, List.pairwise_lt_range, fun k o hk => ?_, fun k k' i i' l l' hlt hi hi' hl hl' => ?_⟩ ⟨h1, h2, S, m, q1, hT.mono q2⟩ (by rw [hall]; exact hrun)
  · simp only [List.mem_range, Array.getD_eq_getD_getElem?]
    constructor
    · intro h; simp [h]
    · intro h; exact h.1
  · simp only [Array.getD_eq_getD_getElem?, Array.getElem?_replicate] at hk
    split at hk <;> cases hk
  · have e1 : i = k := by simp only [List.getElem?_eq_some_iff] at hi; obtain ⟨_, h⟩ := hi; simpa using h.symm
    have e2 : i' = k' := by simp only [List.getElem?_eq_some_iff] at hi'; obtain ⟨_, h⟩ := hi'; simpa using h.symm
    subst e1 e2
    have := drawFrom_ok (i := 0) hdr i i' l l' hlt hl hl'
    rwa [Nat.zero_add, Nat.zero_add] at this
end Ovi

/-! In -/
namespace Ovi
open Go Go.RowKit

/-! ### What comes in: the reader's data as the machine's data, with their types -/
inductive Ty where
  | int (k : IntKind) | bool | str | list (ts : List Ty)
mutual
def Fit : Ty → D → Prop
  | .int k, .int k' n => k' = k ∧ (Lit.int k n).wf = true
  | .bool, .bool _ => True
  | .str, .str s => s.length ≤ maxLen
  | .list ts, .list sz xs => sz = ts.length ∧ xs.length ≤ maxLen ∧ ∀ x ∈ xs, Fits ts x
  | _, _ => False
def Fits : List Ty → List D → Prop
  | [], [] => True
  | t :: ts, d :: ds => Fit t d ∧ Fits ts ds
  | _, _ => False
end
theorem Fits.len : ∀ {ts : List Ty} {ds : List D}, Fits ts ds → ds.length = ts.length
  | [], [], _ => rfl
  | [], _ :: _, h => by simp [Fits] at h
  | _ :: _, [], h => by simp [Fits] at h
  | t :: ts, d :: ds, h => by simp only [Fits] at h; simp [Fits.len h.2]
theorem Fits.append : ∀ {ts us : List Ty} {ds es : List D}, Fits ts ds → Fits us es → Fits (ts ++ us) (ds ++ es)
  | [], us, [], es, _, h => h
  | [], _, _ :: _, _, h, _ => by simp [Fits] at h
  | _ :: _, _, [], _, h, _ => by simp [Fits] at h
  | t :: ts, us, d :: ds, es, h, k => by simp only [Fits] at h; simp only [List.cons_append, Fits]; exact ⟨h.1, h.2.append k⟩
theorem Fit.noFn {t : Ty} {d : D} (h : Fit t d) : d.isFn = false := by cases t <;> cases d <;> first | rfl | (simp [Fit] at h; done)
theorem Fits.noFn : ∀ {ts : List Ty} {ds : List D}, Fits ts ds → ∀ x ∈ ds, x.isFn = false
  | [], [], _, x, hx => by simp at hx
  | [], _ :: _, h, _, _ => by simp [Fits] at h
  | _ :: _, [], h, _, _ => by simp [Fits] at h
  | t :: ts, d :: ds, h, x, hx => by
    simp only [Fits] at h
    rcases List.mem_cons.1 hx with rfl | hx
    · exact h.1.noFn
    · exact h.2.noFn x hx

def tyFs (tyOf : TypeId → Option (List Ty)) (P : Program) : Nat → List Field → Option (List Ty)
  | _, [] => some []
  | off, f :: fs => cond (Nat.beq f.offset off) (match tyOf f.type, tyFs tyOf P (off + P.cellsOf f.type) fs with
    | some a, some b => cond (Nat.beq a.length (P.cellsOf f.type)) (some (a ++ b)) none
    | _, _ => none) none
/-- the types of a type's cells -/
def tyOf (P : Program) : Nat → TypeId → Option (List Ty)
  | 0, _ => none
  | n + 1, t => match P.underlying t with
    | some (.int k) => some [.int k]
    | some .bool => some [.bool]
    | some .string => some [.str]
    | some (.slice e) => match tyOf P n e with
      | some ts => cond (Nat.beq ts.length (P.cellsOf e)) (some [.list ts]) none
      | none => none
    | some (.struct fs) => match tyFs (tyOf P n) P 0 fs.toList with
      | some ts => cond (Nat.beq ts.length (P.cellsOf t)) (some ts) none
      | none => none
    | _ => none

section
variable {H : Type} {enc : TypeId × Value → H} {P : Program} {w : World}
def Here (w : World) : Nat → Prop := fun k => k < w.heap.size
/-- cells that are data of these types -/
def InC (w : World) (ts : List Ty) (cs : List Value) : Prop := ∃ ds : List D, Fits ts ds ∧ ds.length = cs.length ∧ ∀ (j : Nat) v, cs[j]? = some v → ∃ x, ds[j]? = some x ∧ RD w (Here w) (Here w) v x
theorem InC.one {t : Ty} {v : Value} {x : D} (h : Fit t x) (hr : RD w (Here w) (Here w) v x) : InC w [t] [v] :=
  ⟨[x], by simp [Fits, h], rfl, fun j u hu => by cases j <;> simp at hu; subst hu; exact ⟨x, rfl, hr⟩⟩
theorem InC.append {ts us : List Ty} {cs es : List Value} (h : InC w ts cs) (k : InC w us es) : InC w (ts ++ us) (cs ++ es) := by
  obtain ⟨ds, h1, h2, h3⟩ := h
  obtain ⟨fs, k1, k2, k3⟩ := k
  refine ⟨ds ++ fs, h1.append k1, by simp [h2, k2], fun j v hv => ?_⟩
  rcases Nat.lt_or_ge j cs.length with hj | hj
  · rw [List.getElem?_append_left hj] at hv
    rw [List.getElem?_append_left (by omega)]
    exact h3 j v hv
  · rw [List.getElem?_append_right hj] at hv
    rw [List.getElem?_append_right (by omega), h2]
    exact k3 _ v hv
theorem InC.len {ts : List Ty} {cs : List Value} (h : InC w ts cs) : cs.length = ts.length := by
  obtain ⟨ds, h1, h2, h3⟩ := h; rw [← h2, h1.len]
theorem cells?_ok {b : Nat} {a : Addr} {n : Nat} {cs : List Value} (h : w.cells? b a n = some cs) : cs.length = n ∧ ∀ c, c < n → ∃ u, cs[c]? = some u ∧ w.cell? (a.add c) = some u := by
  unfold World.cells? at h
  split at h
  · have hl := mapM_some_length h
    rw [List.length_range] at hl
    refine ⟨hl, fun c hc => ?_⟩
    have := mapM_some_get h c c (by simp [hc])
    rw [this]
    exact ⟨cs[c], by rw [List.getElem?_eq_getElem (by omega)], by rw [List.getElem?_eq_getElem (by omega)]⟩
  · cases h
theorem cell?_here {a : Addr} {u : Value} (h : w.cell? a = some u) : Here w a.block := by
  unfold World.cell? at h
  split at h
  · rename_i hb
    exact (Array.getElem?_eq_some_iff.1 hb).1
  · cases h
theorem list_in {a : Addr} {len cap sz : Nat} {ts : List Ty} (hsz : ts.length = sz) (hlc : len ≤ cap) (hm : cap ≤ maxLen)
    (h : ∀ i, i < len → ∃ cs, w.cells? 0 (a.add (i * sz)) sz = some cs ∧ InC w ts cs) : InC w [.list ts] [.slice (some a) len cap] := by
  have hex : ∀ i, ∃ ds : List D, i < len → Fits ts ds ∧ ∀ c x, ds[c]? = some x → ∃ u, w.cell? (a.add (i * sz + c)) = some u ∧ RD w (Here w) (Here w) u x := by
    intro i
    by_cases hi : i < len
    · obtain ⟨cs, h1, ds, h2, h3, h4⟩ := h i hi
      refine ⟨ds, fun _ => ⟨h2, fun c x hx => ?_⟩⟩
      obtain ⟨k1, k2⟩ := cells?_ok h1
      have hc : c < sz := by have := (List.getElem?_eq_some_iff.1 hx).1; omega
      obtain ⟨u, hu, hw⟩ := k2 c hc
      obtain ⟨y, hy, hr⟩ := h4 c u hu
      rw [hx] at hy
      cases hy
      rw [add_add] at hw
      exact ⟨u, hw, hr⟩
    · exact ⟨[], fun h => absurd h hi⟩
  obtain ⟨row, hrow⟩ := Classical.axiomOfChoice hex
  have hxs : ∀ (i : Nat) (x : List D), ((List.range len).map row)[i]? = some x → i < len ∧ row i = x := by
    intro i x hx
    obtain ⟨h1, h2⟩ := List.getElem?_eq_some_iff.1 hx
    simp only [List.length_map, List.length_range] at h1
    simp only [List.getElem_map, List.getElem_range] at h2
    exact ⟨h1, h2⟩
  have hcell : ∀ i c x, cellD ((List.range len).map row) i c = some x → ∃ u, w.cell? (a.add (i * sz + c)) = some u ∧ RD w (Here w) (Here w) u x ∧ x.isFn = false := by
    intro i c x hx
    obtain ⟨r, hr, hc⟩ := cellD_lt hx
    obtain ⟨hi, rfl⟩ := hxs i r hr
    obtain ⟨u, h1, h2⟩ := (hrow i hi).2 c x hc
    exact ⟨u, h1, h2, (hrow i hi).1.noFn x (List.mem_of_getElem? hc)⟩
  have hg : ∀ p : Nat × Nat, ∃ u : Value, ∀ x, cellD ((List.range len).map row) p.1 p.2 = some x → w.cell? (a.add (p.1 * sz + p.2)) = some u ∧ RD w (Here w) (Here w) u x ∧ x.isFn = false := by
    rintro ⟨i, c⟩
    cases hx : cellD ((List.range len).map row) i c with
    | none => exact ⟨undef, fun x hx => by cases hx⟩
    | some x =>
      obtain ⟨u, h1⟩ := hcell i c x hx
      exact ⟨u, fun y hy => by cases hy; exact h1⟩
  obtain ⟨g, hg⟩ := Classical.axiomOfChoice hg
  refine InC.one (x := .list sz ((List.range len).map row)) ?_ ?_
  · simp only [Fit, List.length_map, List.length_range]
    refine ⟨hsz.symm, by omega, fun x hx => ?_⟩
    obtain ⟨i, hi, rfl⟩ := List.mem_map.1 hx
    exact (hrow i (by simpa using hi)).1
  · have := RD.list (w := w) (S := Here w) (T := Here w) (some a) cap sz ((List.range len).map row) (fun i c => g (i, c)) (by simpa using hlc) (fun i x hx => by
      obtain ⟨hi, rfl⟩ := hxs i x hx; rw [(hrow i hi).1.len, hsz]) (fun i c x hx => ⟨a, rfl, by
        have := cell?_here (hg (i, c) x hx).1
        rwa [add_block] at this, (hg (i, c) x hx).1⟩) (fun i c x hx => (hg (i, c) x hx).2.1) (fun i c x hx => (hg (i, c) x hx).2.2)
    simpa using this
theorem trod_in : ∀ (fuel : Nat) (n : Nat) (t : TypeId) (cs : List Value) (d : DataW H) (ps : List MemPlace) (ts : List Ty),
    DataW.trod enc P w 0 (fun _ => true) true fuel t cs = some (d, ps) → tyOf P n t = some ts → InC w ts cs := by
  intro fuel
  induction fuel with
  | zero => intro n t cs d ps ts h; simp [DataW.trod] at h
  | succ fuel ih =>
    intro n t cs d ps ts h ht
    cases n with
    | zero => simp [tyOf] at ht
    | succ n =>
      unfold tyOf at ht
      split at ht <;> rename_i hu
      · rename_i k
        cases ht
        unfold DataW.trod at h
        rw [hu] at h
        split at h <;> rename_i e1 <;> try (first | (cases e1; done) | (cases h; done))
        rename_i k1 k' m
        split at h
        · rename_i hc
          cases e1
          obtain ⟨rfl, hc⟩ := hc
          exact InC.one (x := .int _ m) ⟨rfl, hc⟩ (.int _ _)
        · cases h
      · cases ht
        unfold DataW.trod at h
        rw [hu] at h
        split at h <;> rename_i e1 <;> try (first | (cases e1; done) | (cases h; done))
        exact InC.one (x := .bool _) trivial (.bool _)
      · cases ht
        unfold DataW.trod at h
        rw [hu] at h
        split at h <;> rename_i e1 <;> try (first | (cases e1; done) | (cases h; done))
        rename_i s
        split at h
        · rename_i hc
          exact InC.one (x := .str s.data.toList) (by simp only [Fit]; simpa using hc) (.str _)
        · cases h
      · rename_i e
        split at ht
        · rename_i us hus
          obtain ⟨hl, ht⟩ : us.length = P.cellsOf e ∧ ts = [.list us] := by
            cases hb : Nat.beq us.length (P.cellsOf e) with
            | true => rw [hb] at ht; cases ht; exact ⟨Nat.eq_of_beq_eq_true hb, rfl⟩
            | false => rw [hb] at ht; cases ht
          subst ht
          unfold DataW.trod at h
          rw [hu] at h
          split at h <;> rename_i e1 <;> try (first | (cases e1; done) | (cases h; done))
          · cases e1
            exact InC.one (x := .list us.length []) (by simp [Fit]) (RD.nil none _)
          · cases e1
            rename_i a len cap
            simp only [] at h
            split at h
            · rename_i hc
              obtain ⟨elems, he, _⟩ := Option.bind_eq_some_iff.1 h
              refine list_in hl hc.2.1 hc.2.2 fun i hi => ?_
              have hlen := mapM_some_length he
              rw [List.length_range] at hlen
              have := mapM_some_get he i i (by simp [hi])
              rw [List.getElem?_eq_getElem (by omega)] at this
              obtain ⟨ci, h1, h2⟩ := Option.bind_eq_some_iff.1 this
              obtain ⟨⟨dd, pp⟩, hel⟩ : ∃ q, elems[i]'(by omega) = q := ⟨_, rfl⟩
              rw [hel] at h2
              exact ⟨ci, h1, ih n e ci dd pp us h2 hus⟩
            · cases h
        · cases ht
      · rename_i fs
        split at ht
        rotate_left
        · cases ht
        rename_i us hus
        obtain ⟨hl, rfl⟩ : us.length = P.cellsOf t ∧ ts = us := by
          cases hb : Nat.beq us.length (P.cellsOf t) with
          | true => rw [hb] at ht; cases ht; exact ⟨Nat.eq_of_beq_eq_true hb, rfl⟩
          | false => rw [hb] at ht; cases ht
        unfold DataW.trod at h
        rw [hu] at h
        split at h <;> rename_i e1 <;> try (first | (cases e1; done) | (cases h; done))
        rename_i cs _ cs2 fs1
        cases e1
        split at h
        · rename_i hlen
          obtain ⟨xs, hx, _⟩ := Option.map_eq_some_iff.1 h
          have key : ∀ (fl : List Field) (off : Nat) (us : List Ty) (xs : List (DataW H × List MemPlace)), tyFs (tyOf P n) P off fl = some us →
              (fl.mapM fun f => DataW.trod enc P w 0 (fun _ => true) true fuel f.type ((cs.drop f.offset).take (P.cellsOf f.type))) = some xs → ∃ k, InC w us ((cs.drop off).take k) ∧ k = us.length := by
            intro fl
            induction fl with
            | nil =>
              intro off us xs h1 h2
              cases h1
              exact ⟨0, ⟨[], by simp [Fits], by simp, fun j v hv => by simp at hv⟩, rfl⟩
            | cons f fl ihf =>
              intro off us xs h1 h2
              simp only [tyFs] at h1
              cases hb : Nat.beq f.offset off with
              | false => rw [hb] at h1; cases h1
              | true =>
                have hoff := Nat.eq_of_beq_eq_true hb
                rw [hb] at h1
                simp only [cond_true] at h1
                split at h1
                · rename_i a b ha hbb
                  cases hc : Nat.beq a.length (P.cellsOf f.type) with
                  | false => rw [hc] at h1; cases h1
                  | true =>
                    have hal := Nat.eq_of_beq_eq_true hc
                    rw [hc] at h1
                    cases h1
                    have hl2 := mapM_some_length h2
                    have g0 := mapM_some_get h2 0 f rfl
                    rw [List.mapM_cons] at h2
                    obtain ⟨y, hy, h2⟩ := Option.bind_eq_some_iff.1 h2
                    obtain ⟨ys, hys, h2⟩ := Option.bind_eq_some_iff.1 h2
                    obtain ⟨k, q1, q2⟩ := ihf _ _ ys hbb hys
                    obtain ⟨yd, yp⟩ := y
                    have q0 := ih n f.type _ yd yp a hy ha
                    refine ⟨P.cellsOf f.type + k, ?_, by simp [hal, q2]⟩
                    rw [List.take_add, List.drop_drop]
                    rw [hoff] at q0
                    exact q0.append q1
                · cases h1
          obtain ⟨k, q1, q2⟩ := key fs.toList 0 ts xs hus hx
          rw [List.drop_zero, List.take_of_length_le (by omega)] at q1
          exact q1
        · cases h
        · exfalso
          clear ih h hus ht hl
          simp_all
      · cases ht
end
end Ovi

/-! Ard -/
namespace Ovi
open Go Go.ChangeShapes Go.WideShapes Go.ChangeAt Go.RowKit

section
variable {H : Type} {enc : TypeId × Value → H} {P : Program} {w : World}
/-- an argument of such a type -/
def ArgFit : Bool × List Ty → AV → Prop
  | (true, us), .agg l => ∃ ds, l = asD ds ∧ Fits us ds
  | (false, [u]), .d x => Fit u x
  | _, _ => False
def ArgsFit : List (Bool × List Ty) → List AV → Prop
  | [], [] => True
  | t :: ts, a :: asv => ArgFit t a ∧ ArgsFit ts asv
  | _, _ => False
def parTy (P : Program) (t : TypeId) : Option (Bool × List Ty) := match tyOf P 8 t with | some us => some (aggOf P t, us) | none => none
def parTys (P : Program) : List TypeId → Option (List (Bool × List Ty))
  | [] => some []
  | t :: ts => match parTy P t, parTys P ts with | some a, some l => some (a :: l) | _, _ => none
theorem arg_in {t : TypeId} {v : Value} {d : DataW H} {p : List MemPlace} {y : Bool × List Ty} (h : DataW.Trod enc P w 0 (fun _ => true) true t v d p) {base : Nat} (ho : Value.okWide P w .any base t v) (ht : parTy P t = some y) :
    ∃ a, ArgFit y a ∧ AC w (Here w) (Here w) (fun _ => none) (fun _ => none) v a := by
  unfold parTy at ht
  split at ht
  · rename_i us hus
    cases ht
    obtain ⟨fuel, hf⟩ := h
    have hin := trod_in fuel 8 t _ d p us hf hus
    obtain ⟨ds, h1, h2, h3⟩ := hin
    have one : ∀ (u : Ty), us = [u] → aggOf P t = false → v.cells = #[v] → ∃ a, ArgFit (aggOf P t, us) a ∧ AC w (Here w) (Here w) (fun _ => none) (fun _ => none) v a := by
      intro u hu hag hv
      subst hu
      rw [hv] at h2 h3
      obtain ⟨x, hx, hr⟩ := h3 0 v rfl
      match ds, h2, h1, hx with
      | [x'], _, h1, hx =>
        cases hx
        rw [hag]
        simp only [Fits] at h1
        exact ⟨.d x, h1.1, hr⟩
    rw [tyOf] at hus
    split at hus <;> rename_i hu
    · cases hus
      obtain ⟨n, rfl⟩ := okWide_int hu ho
      exact one _ rfl (by simp [aggOf, hu]) rfl
    · cases hus
      obtain ⟨n, rfl⟩ := okWide_bool hu ho
      exact one _ rfl (by simp [aggOf, hu]) rfl
    · cases hus
      obtain ⟨n, rfl⟩ := okWide_string hu ho
      exact one _ rfl (by simp [aggOf, hu]) rfl
    · split at hus
      · rename_i ts _
        cases hb : Nat.beq ts.length (P.cellsOf ‹_›) with
        | false => rw [hb] at hus; cases hus
        | true =>
          rw [hb] at hus
          cases hus
          obtain ⟨a, len, cap, rfl⟩ := okWide_slice hu ho
          exact one _ rfl (by simp [aggOf, hu]) rfl
      · cases hus
    · have hag : aggOf P t = true := by simp [aggOf, hu]
      simp only [Value.okWide, hu] at ho
      obtain ⟨cs, rfl, hsz, _⟩ := ho
      simp only [Value.cells] at h2 h3
      rw [hag]
      refine ⟨.agg (asD ds), ⟨ds, rfl, h1⟩, cs, rfl, by simp [asD, h2], fun j a ha => ?_⟩
      simp only [asD, List.getElem?_map] at ha
      obtain ⟨x, hx, rfl⟩ := Option.map_eq_some_iff.1 ha
      have hj : j < cs.size := by have := (List.getElem?_eq_some_iff.1 hx).1; simpa [h2] using this
      obtain ⟨x', hx', hr⟩ := h3 j cs[j] (by simp [hj])
      rw [hx] at hx'
      cases hx'
      exact ⟨cs[j], by simp [hj], hr⟩
    · cases hus
  · cases ht
theorem args_in : ∀ {ts : List TypeId} {vs : List Value} {ds : List (DataW H)} {p : List MemPlace} {ys : List (Bool × List Ty)}, DataW.TrodAll enc P w 0 (fun _ => true) true ts vs ds p → ∀ {base : Nat},
    (∀ (j : Nat) t v, ts[j]? = some t → vs[j]? = some v → Value.okWide P w .any base t v) → parTys P ts = some ys →
    ∃ asv, ArgsFit ys asv ∧ vs.length = asv.length ∧ ∀ (j : Nat) a, asv[j]? = some a → ∃ u, vs[j]? = some u ∧ AC w (Here w) (Here w) (fun _ => none) (fun _ => none) u a
  | [], vs, ds, p, ys, h, base, ho, ht => by
    obtain ⟨rfl, rfl, rfl⟩ := trodAll_nil h
    cases ht
    exact ⟨[], trivial, rfl, fun j a ha => by simp at ha⟩
  | t :: ts, vs, ds, p, ys, h, base, ho, ht => by
    obtain ⟨v, vs', d, ds', p1, q1, rfl, rfl, rfl, h1, h2⟩ := trodAll_cons h
    unfold parTys at ht
    split at ht
    · rename_i y l hy hl
      cases ht
      obtain ⟨a, ha, hc⟩ := arg_in h1 (ho 0 t v rfl rfl) hy
      obtain ⟨asv, k1, k2, k3⟩ := args_in h2 (base := base) (fun j t' v' h1 h2 => ho (j + 1) t' v' h1 h2) hl
      refine ⟨a :: asv, ⟨ha, k1⟩, by simp [k2], fun j b hb => ?_⟩
      cases j with
      | zero => cases hb; exact ⟨v, rfl, hc⟩
      | succ j => exact k3 j b hb
    · cases ht
def readable (P : Program) (ts : List TypeId) : Bool := ts.all fun t => P.readableRec t && Nat.blt t P.types.size
theorem kept_all (hl : laidOutB P = true) {W W' : World} (hb : Below W.heap.size W W') : ∀ {ts : List TypeId} {vs : List Value} {ds : List (DataW H)} {p : List MemPlace}, readable P ts = true →
    DataW.TrodAll enc P W 0 (fun _ => true) true ts vs ds p → DataW.TrodAll enc P W' 0 (fun b => decide (b < W.heap.size)) true ts vs ds p
  | [], vs, ds, p, hr, h => by
    obtain ⟨rfl, rfl, rfl⟩ := trodAll_nil h
    exact trodAll_mk0
  | t :: ts, vs, ds, p, hr, h => by
    obtain ⟨v, vs', d, ds', p1, q1, rfl, rfl, rfl, h1, h2⟩ := trodAll_cons h
    simp only [readable, List.all_cons, Bool.and_eq_true] at hr
    refine trodAll_cons_mk (Below.trod hl hr.1.1 (Nat.le_of_ble_eq_true hr.1.2) h1 hb ?_) (kept_all hl hb (by simpa [readable] using hr.2) h2)
    obtain ⟨m, hm⟩ := h1
    exact DataW.trod_lt m _ _ _ hm
/-- the answer 'true' -/
def yes : Res := [(false, [.d (.bool true)])]
theorem calls_yes {call : CallF} {G : Gd} (hS : Sound P G call) {f : FuncId} {asv : List AV} (he : call f asv = some yes) {vs : Array Value} (hv : Leaves (AC w (Here w) (Here w) (fun _ => none) (fun _ => none)) vs asv) (hG : G.pr (Here w) w) :
    Calls P f vs w fun e w' => e = .returned (.bool true) ∧ Below w.heap.size w w' := by
  have h := hS.plain f asv yes he
  refine (h w (Here w) (Here w) vs (fun _ h => h) (fun _ h => h) hv hG).mono fun e w' ⟨v, S', mr, he, hb, _, _, hr, _⟩ => ?_
  obtain ⟨⟨us, h1, h2, h3⟩, _⟩ := hr
  obtain ⟨u, hu, hone⟩ := h3 0 _ rfl
  simp only [yes, List.length_cons, List.length_nil] at h2
  obtain ⟨u', rfl⟩ := List.length_eq_one_iff.1 h2
  simp only [List.getElem?_cons_zero, Option.some.injEq] at hu
  subst hu
  obtain ⟨l, hl, hrl⟩ := hone
  cases hl
  cases hrl
  exact ⟨by rw [he, h1], hb⟩
end
end Ovi

/-! Lib -/
namespace Ovi
open Go

section
variable {R : Type}
theorem ite'_t {b : Bool} {x y : Option R} (h : b = true) : ite' b x y = x := by rw [h]; rfl
theorem ite'_f {b : Bool} {x y : Option R} (h : b = false) : ite' b x y = y := by rw [h]; rfl
theorem ite'_nt {x y : Option R} : ite' (!true) x y = y := rfl
theorem ite'_nf {x y : Option R} : ite' (!false) x y = x := rfl
theorem bindI_s (a : Int) (k : Int → Option R) : bindI (some a) k = k a := rfl
theorem bindB_s (a : Bool) (k : Bool → Option R) : bindB (some a) k = k a := rfl
theorem bindS_s (a : List UInt8) (k : List UInt8 → Option R) : bindS (some a) k = k a := rfl
theorem bindL_s (a : Rows) (k : Rows → Option R) : bindL (some a) k = k a := rfl
theorem bindR_s (a : Res) (k : Res → Option R) : bindR (some a) k = k a := rfl
theorem resI_s (k : IntKind) (n : Int) : resI k 1 false 1 [(false, [.d (.int k n)])] 0 0 = some n := by simp [resI, leafD, D.asI]
theorem resB_s (b : Bool) : resB 1 false 1 [(false, [.d (.bool b)])] 0 0 = some b := rfl
theorem resS_s (b : List UInt8) : resS 1 false 1 [(false, [.d (.str b)])] 0 0 = some b := rfl
theorem resO_s (e sz : Nat) (l : Rows) : resO e sz 1 false 1 [(false, [.row e sz l])] 0 0 = some l := by simp [resO, leafD]
theorem resL_s (e sz : Nat) (l : Rows) : resL sz 1 false 1 [(false, [.row e sz l])] 0 0 = some l := by simp [resL, leafD]
theorem resL_d (sz : Nat) (l : Rows) : resL sz 1 false 1 [(false, [.d (.list sz l)])] 0 0 = some l := by simp [resL, leafD, D.asL]
end
theorem wrap_id {n : Int} (h1 : -9223372036854775808 ≤ n) (h2 : n < 9223372036854775808) : IntKind.i64.wrap n = n := by rw [IntKind.wrap_i64]; omega
theorem wrap_succ {n : Int} {m : Nat} (h1 : 0 ≤ n) (h2 : n < m) (h3 : m ≤ maxLen) : IntKind.i64.wrap (n + 1) = n + 1 := by
  unfold maxLen at h3
  exact wrap_id (by omega) (by omega)

mutual
/-- how many values and letters hang under it -/
def szD : D → Nat
  | .str s => s.length
  | .list _ xs => xs.length + szR xs
  | _ => 0
def szR : List (List D) → Nat
  | [] => 0
  | r :: rs => szC r + szR rs
def szC : List D → Nat
  | [] => 0
  | d :: ds => szD d + szC ds
end
def szT (left : Int) (s : Nat) : Int := if (s : Int) ≤ left then left - s else -1
theorem szT_cases (left : Int) (s : Nat) : ((s : Int) ≤ left ∧ szT left s = left - s) ∨ (left < (s : Int) ∧ szT left s = -1) := by
  unfold szT; split
  · exact .inl ⟨‹_›, rfl⟩
  · exact .inr ⟨by omega, rfl⟩
theorem szT_pos {left : Int} {s : Nat} (h : (s : Int) ≤ left) : szT left s = left - s := if_pos h
theorem szT_neg {left : Int} {s : Nat} (h : left < (s : Int)) : szT left s = -1 := if_neg (by omega)

theorem Fits.cons {t : Ty} {ts : List Ty} {r : List D} (h : Fits (t :: ts) r) : ∃ x r', r = x :: r' ∧ Fit t x ∧ Fits ts r' := by
  cases r with
  | nil => simp [Fits] at h
  | cons x r' => simp only [Fits] at h; exact ⟨x, r', rfl, h.1, h.2⟩
theorem Fits.nil {r : List D} (h : Fits [] r) : r = [] := by cases r with | nil => rfl | cons x r' => simp [Fits] at h
theorem Fit.int {k : IntKind} {d : D} (h : Fit (.int k) d) : ∃ n, d = .int k n ∧ (Lit.int k n).wf = true := by
  cases d <;> simp [Fit] at h
  obtain ⟨rfl, h⟩ := h
  exact ⟨_, rfl, h⟩
theorem Fit.bool {d : D} (h : Fit .bool d) : ∃ b, d = .bool b := by
  cases d <;> simp [Fit] at h
  exact ⟨_, rfl⟩
theorem Fit.str {d : D} (h : Fit .str d) : ∃ s, d = .str s ∧ s.length ≤ maxLen := by
  cases d <;> simp [Fit] at h
  exact ⟨_, rfl, h⟩
theorem Fit.list {ts : List Ty} {d : D} {n : Nat} (h : Fit (.list ts) d) (hn : ts.length = n) : ∃ xs, d = .list n xs ∧ Fit (.list ts) (.list n xs) := by
  subst hn
  cases d with
  | list sz xs =>
    have h' := h
    simp only [Fit] at h
    obtain ⟨rfl, _⟩ := h
    exact ⟨xs, rfl, h'⟩
  | _ => simp [Fit] at h
theorem Fit.len {ts : List Ty} {sz : Nat} {xs : Rows} (h : Fit (.list ts) (.list sz xs)) : xs.length ≤ maxLen := by simp only [Fit] at h; exact h.2.1
theorem Fit.row {ts : List Ty} {sz : Nat} {xs : Rows} (h : Fit (.list ts) (.list sz xs)) {i : Nat} (hi : i < xs.length) : ∃ row, xs[i]? = some row ∧ Fits ts row ∧ xs.drop i = row :: xs.drop (i + 1) := by
  simp only [Fit] at h
  exact ⟨xs[i], List.getElem?_eq_getElem hi, h.2.2 _ (List.getElem_mem hi), List.drop_eq_getElem_cons hi⟩
theorem Fit.zero (ts : List Ty) : Fit (.list ts) (.list ts.length []) := by simp [Fit]
theorem cellI_at {k : IntKind} {l : Rows} {i off : Nat} {row : List D} (h : l[i]? = some row) : cellI k l i off = (row[off]?).bind (D.asI k) := by simp [cellI, cellD, h]
theorem cellB_at {l : Rows} {i off : Nat} {row : List D} (h : l[i]? = some row) : cellB l i off = (row[off]?).bind D.asB := by simp [cellB, cellD, h]
theorem cellS_at {l : Rows} {i off : Nat} {row : List D} (h : l[i]? = some row) : cellS l i off = (row[off]?).bind D.asS := by simp [cellS, cellD, h]
theorem cellL_at {sz : Nat} {l : Rows} {i off : Nat} {row : List D} (h : l[i]? = some row) : cellL sz l i off = (row[off]?).bind (D.asL sz) := by simp [cellL, cellD, h]
theorem asI_s (k : IntKind) (n : Int) : D.asI k (.int k n) = some n := by simp [D.asI]
theorem asB_s (b : Bool) : D.asB (.bool b) = some b := rfl
theorem asS_s (b : List UInt8) : D.asS (.str b) = some b := rfl
theorem asL_s (sz : Nat) (xs : Rows) : D.asL sz (.list sz xs) = some xs := by simp [D.asL]
theorem inR_t {i n : Nat} (h : i < n) : inR (i : Int) n = true := by simp only [inR, decide_eq_true_eq]; omega
theorem lt_t {i n : Nat} (h : i < n) : decide ((i : Int) < (n : Int)) = true := by simp only [decide_eq_true_eq]; omega
theorem lt_f {i n : Nat} (h : ¬ i < n) : decide ((i : Int) < (n : Int)) = false := by simp only [decide_eq_false_iff_not]; omega
theorem inM_t {n : Nat} (h : n ≤ 1099511627776) : inM (n : Int) = true := by simp only [inM, decide_eq_true_eq]; omega
theorem fits_t {n : Nat} (h : n ≤ 1099511627776) : fits n = true := by simp only [fits, decide_eq_true_eq]; exact h
theorem beq_t (n : Int) : (n == n) = true := by simp
theorem bne_f (n : Int) : (n != n) = false := by simp
theorem neg_t : decide ((-1 : Int) < 0) = true := by decide
theorem neg_f {n : Int} (h : 0 ≤ n) : decide (n < 0) = false := by simp only [decide_eq_false_iff_not]; omega

/-! ### a copy that is being made -/
def Filled (a v : Rows) (i sz : Nat) : Prop := v.length = a.length ∧ v.take i = a.take i ∧ ∀ r ∈ v, r.length = sz
theorem Filled.start (a : Rows) (z : List D) : Filled a (rowsOf (a.length : Int) z) 0 z.length := by
  refine ⟨by simp [rowsOf], by simp, fun r hr => ?_⟩
  simp only [rowsOf] at hr
  rw [List.eq_of_mem_replicate hr]
theorem Filled.done {a v : Rows} {sz : Nat} (h : Filled a v a.length sz) : v = a := by
  obtain ⟨h1, h2, _⟩ := h
  rwa [List.take_of_length_le (by omega), List.take_of_length_le (by omega)] at h2
theorem Filled.step {a v : Rows} {i sz : Nat} {row : List D} (h : Filled a v i sz) (hr : a[i]? = some row) (hs : row.length = sz) : Filled a (rowsSet v i 0 row) (i + 1) sz := by
  obtain ⟨h1, h2, h3⟩ := h
  obtain ⟨hi, hra⟩ := List.getElem?_eq_some_iff.1 hr
  have hiv : i < v.length := by omega
  have e : rowsSet v i 0 row = v.set i row := by
    unfold rowsSet
    congr 1
    have : (v.getD i []).length = sz := by
      rw [List.getD_eq_getElem?_getD, List.getElem?_eq_getElem hiv]
      exact h3 _ (List.getElem_mem hiv)
    rw [List.take_zero, List.nil_append, List.drop_eq_nil_of_le (by omega), List.append_nil]
  rw [e]
  refine ⟨by simp [h1], ?_, fun r hr => ?_⟩
  · rw [List.take_succ_eq_append_getElem (by simp; exact hiv), List.take_succ_eq_append_getElem hi]
    rw [List.take_set_of_le (Nat.le_refl _), h2]
    simp [hra]
  · rcases List.mem_or_eq_of_mem_set hr with hr | rfl
    · exact h3 r hr
    · exact hs
end Ovi
namespace Ovi
open Go
theorem szR_at {a : Rows} {i : Nat} {row : List D} (h : a[i]? = some row) : szC row ≤ szR a := by
  induction a generalizing i with
  | nil => simp at h
  | cons r rs ih =>
    cases i with
    | zero => simp only [List.getElem?_cons_zero, Option.some.injEq] at h; subst h; simp [szR]
    | succ i => have := ih h; simp only [szR]; omega
end Ovi

/-! Okp -/
namespace Ovi
open Go
def funcOk (fn : Func) : Bool := !(fn.name == "runtime.NumGoroutine") && match fn.body with
  | some c => codeOk drawStat fn.ntmps c
  | none => true
def progOk (P : Program) : Bool := P.funcs.toList.all funcOk
theorem okProg {P : Program} (h : progOk P = true) : OkProg P drawStat := by
  have key : ∀ (f : FuncId) (fn : Func), P.funcs[f]? = some fn → funcOk fn = true := by
    intro f fn hf
    refine List.all_eq_true.1 h fn ?_
    have : P.funcs.toList[f]? = some fn := by simpa using hf
    exact List.mem_of_getElem? this
  refine ⟨fun f fn hf => ?_, fun f fn c hf hc => ?_⟩
  · have := key f fn hf
    simp only [funcOk, Bool.and_eq_true, Bool.not_eq_true'] at this
    exact this.1
  · have := key f fn hf
    simp only [funcOk, Bool.and_eq_true, hc] at this
    exact this.2
/-- no function by a contract of its own -/
theorem sound_none (P : Program) (G : Gd) : Sound P G fun f args => ((fun _ => none : FuncId → Option (Args → Option Res)) f).bind fun p => p args :=
  { known := fun f args r h => (nomatch h), plain := fun f args r h => (nomatch h), raw := fun f k e sz xs rest r h => (nomatch h), mark := fun f b k xs r h => (nomatch h) }
end Ovi

/-! Srt -/
namespace Ovi
open Go Go.RowKit Go.Sort

/-! ### slices.Sort and slices.Compact on integers, by the shelf's contracts -/
def I1 (zs : List Int) : Rows := zs.map fun z => [.int .i64 z]
def ints : Rows → Option (List Int)
  | [] => some []
  | [.int .i64 z] :: r => match ints r with | some zs => some (z :: zs) | none => none
  | _ => none
theorem ints_I1 (zs : List Int) : ints (I1 zs) = some zs := by
  induction zs with
  | nil => rfl
  | cons z zs ih =>
    show (match ints (I1 zs) with | some zs => some (z :: zs) | none => none) = _
    rw [ih]
theorem ints_some : ∀ {xs : Rows} {zs : List Int}, ints xs = some zs → xs = I1 zs
  | [], zs, h => by cases h; rfl
  | [.int .i64 z] :: r, zs, h => by
    unfold ints at h
    split at h
    · rename_i zs' h'
      cases h
      rw [ints_some h']
      rfl
    · cases h
def sortInts (zs : List Int) : List Int := zs.mergeSort fun x y => decide (x ≤ y)
def rawArg : Args → Option (Nat × List Int)
  | [.var 0 0, .d (.int .i64 e), .d (.list 1 xs)] => match ints xs with
    | some zs => cond (Nat.ble zs.length 1099511627776) (some (e.toNat, zs)) none
    | none => none
  | _ => none
def sortP (args : Args) : Option Res := match rawArg args with
  | some (e, zs) => some [(false, [.row e 1 (I1 (sortInts zs))])]
  | none => none
def compactP (args : Args) : Option Res := match rawArg args with
  | some (e, zs) => some [(false, [.row e 1 (I1 (Lib.compact zs))]), (true, [])]
  | none => none
theorem rawArg_some {k : IntKind} {e : Int} {sz : Nat} {xs : Rows} {rest : Args} {e' : Nat} {zs : List Int} (h : rawArg (rawTag :: .d (.int k e) :: .d (.list sz xs) :: rest) = some (e', zs)) : sz = 1 ∧ rest = [] ∧ xs = I1 zs ∧ e' = e.toNat ∧ zs.length ≤ 1099511627776 := by
  unfold rawArg at h
  split at h
  · rename_i e1 xs1 heq
    simp only [rawTag, List.cons.injEq, AV.d.injEq, D.int.injEq, D.list.injEq, true_and] at heq
    obtain ⟨⟨_, rfl⟩, ⟨rfl, rfl⟩, rfl⟩ := heq
    split at h
    · rename_i zs' hz
      cases hb : Nat.ble zs'.length 1099511627776 with
      | false => rw [hb] at h; cases h
      | true =>
        rw [hb] at h
        cases h
        exact ⟨rfl, rfl, ints_some hz, rfl, Nat.le_of_ble_eq_true hb⟩
    · cases h
  · cases h
theorem rawArg_isRaw {args : Args} {p : Nat × List Int} (h : rawArg args = some p) : ∃ e xs, args = [.var 0 0, .d (.int .i64 e), .d (.list 1 xs)] := by
  unfold rawArg at h
  split at h
  · exact ⟨_, _, rfl⟩
  · cases h
section
variable {P : Program} {G : Gd} {w : World} {S T : Nat → Prop} {b e cap : Nat}
theorem I1_get (zs : List Int) (i : Nat) : (I1 zs)[i]? = (zs[i]?).map fun z => [.int .i64 z] := by simp [I1]
theorem I1_cell {zs : List Int} {i c : Nat} {x : D} (h : cellD (I1 zs) i c = some x) : c = 0 ∧ ∃ z, zs[i]? = some z ∧ x = .int .i64 z := by
  obtain ⟨row, hr, hc⟩ := cellD_lt h
  rw [I1_get] at hr
  obtain ⟨z, hz, rfl⟩ := Option.map_eq_some_iff.1 hr
  cases c with
  | zero => simp at hc; exact ⟨rfl, z, hz, hc.symm⟩
  | succ c => simp at hc
theorem I1_len (zs : List Int) : (I1 zs).length = zs.length := by simp [I1]
theorem I1_at {zs : List Int} {i : Nat} {z : Int} (h : zs[i]? = some z) : cellD (I1 zs) i 0 = some (.int .i64 z) := by simp [cellD, I1_get, h]
theorem I1_rows (zs : List Int) : ∀ (i : Nat) (x : List D), (I1 zs)[i]? = some x → x.length = 1 := by
  intro i x h
  rw [I1_get] at h
  obtain ⟨z, _, rfl⟩ := Option.map_eq_some_iff.1 h
  rfl
theorem heapSorted {n : Nat} {os : Array Obj} {cur : Array Value} {fr : Nat × Nat} (d : Array Int) (hb : w.heap[b]? = some (.cells cur e fr)) :
    (grow (putRow (Value.int .i64) (Sort.ahead w n) b 0 d) os).heap[b]? = some (.cells (putCells (Value.int .i64) 0 d cur) e fr) := by
  have hg : b < w.heap.size := (Array.getElem?_eq_some_iff.1 hb).1
  rw [heap_grow_old _ _ (by simpa using hg)]
  simp [putRow, mapBlock, Sort.ahead, Array.getElem?_modify, hb, onCells]
theorem heapOther {n : Nat} {os : Array Obj} (d : Array Int) {k : Nat} (hk : k < w.heap.size) (hne : k ≠ b) : (grow (putRow (Value.int .i64) (Sort.ahead w n) b 0 d) os).heap[k]? = w.heap[k]? := by
  rw [heap_grow_old _ _ (by simpa using hk)]
  simp [putRow, mapBlock, Sort.ahead, Array.getElem?_modify, Ne.symm hne]
/-- a row of integers is what the shelf's contracts ask for -/
theorem holds_row {zs : List Int} {u : Value} (h : rowC w S T 0 (some b) e 1 (I1 zs) u) : ∃ cap cur, u = .slice (some ⟨b, 0, none⟩) zs.length cap ∧ w.heap[b]? = some (.cells cur e (0, 0)) ∧ zs.length ≤ cap ∧ cap ≤ maxLen ∧ cur.size = cap ∧ b < w.heap.size ∧ ¬ S b ∧ Holds (Value.int .i64) w b 0 zs.toArray := by
  obtain ⟨_, ⟨cap, cur, rfl, hc, h1, h2, h3⟩, _, hS, cur', hc', h4, h5⟩ := h
  rw [I1_len] at *
  rw [hc] at hc'
  cases hc'
  refine ⟨cap, cur, rfl, hc, h1, h2, by omega, lt_of_blk hc, hS, fun j hj => ?_⟩
  have hj' : j < zs.length := by simpa using hj
  obtain ⟨_, v, hv, hr⟩ := h5 j 0 _ (I1_at (List.getElem?_eq_getElem hj'))
  refine ⟨?_, by simp [World.frozen?, hc]⟩
  simp only [World.cell?, hc, Nat.zero_add, Option.isSome_none, Bool.false_eq_true, if_false]
  simp only [Nat.mul_one, Nat.add_zero] at hv
  rw [hv]
  cases hr
  simp [hj']
theorem put_row {cur : Array Value} {n : Nat} {os : Array Obj} {d ys : List Int} (hb : w.heap[b]? = some (.cells cur e (0, 0))) (hS : ¬ S b) (hd : d.length ≤ cur.size) (hy : ∀ i, i < ys.length → d[i]? = ys[i]?) (hyl : ys.length ≤ d.length) (hc : ys.length ≤ cap) (hm : cap ≤ maxLen) (hcs : cur.size = cap) :
    Turned w (some b) e (grow (putRow (Value.int .i64) (Sort.ahead w n) b 0 d.toArray) os) ∧
    rowC (grow (putRow (Value.int .i64) (Sort.ahead w n) b 0 d.toArray) os) S T 0 (some b) e 1 (I1 ys) (.slice (some ⟨b, 0, none⟩) ys.length cap) := by
  have hbl := lt_of_blk hb
  have hnew : (grow (putRow (Value.int .i64) (Sort.ahead w n) b 0 d.toArray) os).heap[b]? = some (.cells (putCells (Value.int .i64) 0 d.toArray cur) e (0, 0)) := heapSorted _ hb
  have hcsz : (putCells (Value.int .i64) 0 d.toArray cur).size = cur.size := by simp [putCells]
  refine ⟨⟨cur, _, hb, hcsz, rfl, rfl, rfl, by simp [setBlk], fun k hk => ?_⟩, I1_rows ys, ?_, Nat.zero_le _, hS, _, hnew, by rw [I1_len, hcsz]; omega, fun i c x hx => ?_⟩
  · by_cases hkb : k = b
    · subst hkb
      rw [setBlk_at hbl, hnew]
    · rw [setBlk_ne hkb]
      exact heapOther _ hk hkb
  · rw [I1_len]
    exact ⟨cap, _, rfl, hnew, hc, hm, by rw [hcsz]; omega⟩
  · obtain ⟨rfl, z, hz, rfl⟩ := I1_cell hx
    have hi : i < ys.length := (List.getElem?_eq_some_iff.1 hz).1
    refine ⟨rfl, .int .i64 z, ?_, .int _ _⟩
    have hid : d[i]? = some z := by rw [hy i hi, hz]
    have hidl : i < d.length := by omega
    have hic : i < cur.size := by omega
    simp only [Nat.mul_one, Nat.add_zero, putCells, Array.getElem?_mapIdx]
    rw [Array.getElem?_eq_getElem hic]
    have hz' : d[i] = z := by rw [List.getElem?_eq_getElem hidl] at hid; exact Option.some.inj hid
    simp [hidl, hz']
theorem leaves_nil {vs : Array Value} {R : Value → AV → Prop} (h : Leaves R vs []) : vs = #[] := Array.eq_empty_of_size_eq_zero h.1
end
/-- what the shelf promises of slices.Sort -/
structure SortC (P : Program) (f : FuncId) : Prop where
  known : Known P f
  run : ∀ (blk off cap : Nat) (zs : List Int) (w : World), Holds (Value.int .i64) w blk off zs.toArray → blk < w.heap.size → zs.length < 4611686018427387904 →
    Calls P f #[.slice (some ⟨blk, off, none⟩) zs.length cap] w fun e w' => e = .returned (.tuple #[]) ∧ ∃ n os, w' = grow (putRow (Value.int .i64) (Sort.ahead w n) blk off (zs.mergeSort fun x y => decide (x ≤ y)).toArray) os
  nil : ∀ (A : Option Addr) (w : World), Calls P f #[.slice A 0 0] w fun e w' => e = .returned (.tuple #[]) ∧ Below w.heap.size w w'
/-- and of slices.Compact -/
structure CompactC (P : Program) (f : FuncId) : Prop where
  known : Known P f
  run : ∀ (blk off cap : Nat) (zs : List Int) (w : World), Holds (Value.int .i64) w blk off zs.toArray → zs.length ≤ 9223372036854775807 → zs.length ≤ cap →
    Calls P f #[.slice (some ⟨blk, off, none⟩) zs.length cap] w fun e w' => e = .returned (.slice (some ⟨blk, off, none⟩) (Lib.compact zs).length cap) ∧ ∃ q, w' = putRow (Value.int .i64) (Sort.ahead w q) blk off (Lib.compact zs ++ List.replicate (zs.length - (Lib.compact zs).length) 0).toArray
  nil : ∀ (A : Option Addr) (cap : Nat) (w : World), Calls P f #[.slice A 0 cap] w fun e w' => e = .returned (.slice A 0 cap) ∧ w' = w
theorem compact_len (zs : List Int) : (Lib.compact zs).length ≤ zs.length := by
  unfold Lib.compact Lib.compactUpTo
  rw [List.length_map]
  exact Nat.le_trans (List.length_filter_le _ _) (by simp)
theorem plain_raw {P : Program} {G : Gd} {f : FuncId} {e : Int} {xs : Rows} {r : Res} : PlainC P G f [.var 0 0, .d (.int .i64 e), .d (.list 1 xs)] r := by
  intro w S T vs hS hT hl
  obtain ⟨u, hu, ⟨cs, h⟩, _⟩ := hl.2 0 _ rfl
  cases h
theorem sort_sound {P : Program} {G : Gd} {fs : FuncId} (h : SortC P fs) {args : Args} {r : Res} (hr : sortP args = some r) : PlainC P G fs args r ∧ ∀ k e sz xs rest, args = rawTag :: .d (.int k e) :: .d (.list sz xs) :: rest → ∀ e' : Nat, e = e' → RawC P fs e' sz xs rest r := by
  unfold sortP at hr
  split at hr
  · rename_i e0 zs hra
    cases hr
    refine ⟨?_, fun k e sz xs rest hargs e' he => ?_⟩
    · obtain ⟨_, _, rfl⟩ := rawArg_isRaw hra
      exact plain_raw
    · subst hargs
      obtain ⟨rfl, rfl, rfl, rfl, hlen⟩ := rawArg_some hra
      subst he
      refine Or.inl fun w S T mo u vs hS hT hrow hl => ?_
      obtain rfl := leaves_nil hl
      simp only [Array.append_empty, Int.toNat_natCast]
      have hsl : (sortInts zs).length = zs.length := by simp [sortInts]
      cases mo with
      | none =>
        obtain ⟨_, ⟨_, A, rfl⟩, hn⟩ := hrow
        have hz : zs = [] := by simpa [I1] using hn
        subst hz
        refine (h.nil A w).mono fun ex w' ⟨h1, h2⟩ => ⟨_, h1, h2, fun _ => ⟨by simp [I1, sortInts], rfl, ?_⟩⟩
        refine ⟨fun i x hx => by simp [I1, sortInts] at hx, ⟨by simp [I1, sortInts], A, rfl⟩, by simp [I1, sortInts]⟩
      | some b =>
        obtain ⟨cap, cur, rfl, hc, h1, h2, h3, h4, h5, h6⟩ := holds_row hrow
        refine (h.run b 0 cap zs w h6 h4 (by omega)).mono fun ex w' ⟨k1, n, os, k2⟩ => ?_
        subst k2
        obtain ⟨q1, q2⟩ := put_row (S := S) (T := T) (n := n) (os := os) (d := sortInts zs) (ys := sortInts zs) hc h5 (by omega) (fun _ _ => rfl) (Nat.le_refl _) (by omega) h2 h3
        rw [hsl] at q2
        exact ⟨_, k1, q1, fun _ => ⟨by simp [I1, hsl], rfl, q2⟩⟩
  · cases hr
theorem compact_sound {P : Program} {G : Gd} {fs : FuncId} (h : CompactC P fs) {args : Args} {r : Res} (hr : compactP args = some r) : PlainC P G fs args r ∧ ∀ k e sz xs rest, args = rawTag :: .d (.int k e) :: .d (.list sz xs) :: rest → ∀ e' : Nat, e = e' → RawC P fs e' sz xs rest r := by
  unfold compactP at hr
  split at hr
  · rename_i e0 zs hra
    cases hr
    refine ⟨?_, fun k e sz xs rest hargs e' he => ?_⟩
    · obtain ⟨_, _, rfl⟩ := rawArg_isRaw hra
      exact plain_raw
    · subst hargs
      obtain ⟨rfl, rfl, rfl, rfl, hlen⟩ := rawArg_some hra
      subst he
      refine Or.inl fun w S T mo u vs hS hT hrow hl => ?_
      obtain rfl := leaves_nil hl
      simp only [Array.append_empty, Int.toNat_natCast]
      have hsl := compact_len zs
      cases mo with
      | none =>
        obtain ⟨_, ⟨_, A, rfl⟩, hn⟩ := hrow
        have hz : zs = [] := by simpa [I1] using hn
        subst hz
        refine (h.nil A 0 w).mono fun ex w' ⟨h1, h2⟩ => ⟨_, h1, by subst h2; exact Below.refl _ _, fun _ => ?_⟩
        exact ⟨fun i x hx => by simp [I1, Lib.compact, Lib.compactUpTo] at hx, ⟨by simp [I1, Lib.compact, Lib.compactUpTo], A, rfl⟩, by simp [I1, Lib.compact, Lib.compactUpTo]⟩
      | some b =>
        obtain ⟨cap, cur, rfl, hc, h1, h2, h3, h4, h5, h6⟩ := holds_row hrow
        refine (h.run b 0 cap zs w h6 (by unfold maxLen at h2; omega) h1).mono fun ex w' ⟨k1, n, k2⟩ => ?_
        subst k2
        obtain ⟨q1, q2⟩ := put_row (S := S) (T := T) (n := n) (os := #[]) (d := Lib.compact zs ++ List.replicate (zs.length - (Lib.compact zs).length) 0) (ys := Lib.compact zs) hc h5 (by simp; omega) (fun i hi => by rw [List.getElem?_append_left hi]) (by simp) (by omega) h2 h3
        rw [grow_empty] at q1 q2
        exact ⟨_, k1, q1, fun _ => q2⟩
  · cases hr
/-- what the shelf promises of slices.Clone on integers; e: the element's type -/
structure CloneC (P : Program) (f : FuncId) (e : TypeId) : Prop where
  known : Known P f
  run : ∀ (b off n c : Nat) (zs : List Int) (w : World), n ≤ zs.length → n * 8 ≤ 140737488355328 → (∀ j, j < zs.length → w.cell? ⟨b, off + j, none⟩ = some (.int .i64 (zs.getD j 0))) →
    Calls P f #[.slice (some ⟨b, off, none⟩) n c] w fun ex w' => ∃ v', ex = .returned v' ∧ w'.ownsRow w.heap.size e 1 v' n ((zs.take n).map (Value.int .i64)) ∧ v' ≠ .slice none 0 0 ∧ Below w.heap.size w w'
  nil : ∀ (n c : Nat) (w : World), Calls P f #[.slice none n c] w fun ex w' => ex = .returned (.slice none 0 0) ∧ w' = w
  zero : ∀ (a : Addr) (c : Nat) (w : World), Calls P f #[.slice (some a) 0 c] w fun ex w' => ∃ v', ex = .returned v' ∧ w'.ownsRow w.heap.size e 1 v' 0 [] ∧ v' ≠ .slice none 0 0 ∧ Below w.heap.size w w'
def cloneP (e : Nat) : Args → Option Res
  | [.d (.list 1 xs)] => match ints xs with
    | some zs => cond (Nat.ble zs.length 1099511627776) (some [(false, [.row e 1 (I1 zs)])]) none
    | none => none
  | _ => none
theorem own_row {w' : World} {S T : Nat → Prop} {B e : Nat} {v : Value} {zs : List Int} (h : w'.ownsRow B e 1 v zs.length (zs.map (Value.int .i64))) (hS : ∀ k, S k → k < B) : ∃ mo, rowC w' S T B mo e 1 (I1 zs) v := by
  obtain ⟨_, h⟩ := h
  rcases h with ⟨rfl, h0⟩ | ⟨g, cap, cur, rfl, hb, hg, h1, h2, h3, h4⟩
  · have hz := List.eq_nil_of_length_eq_zero h0
    subst hz
    exact ⟨none, fun i x hx => by simp [I1] at hx, ⟨by simp [I1], none, rfl⟩, by simp [I1]⟩
  · refine ⟨some g, I1_rows zs, by rw [I1_len]; exact ⟨cap, cur, rfl, hg, h1, h2, h3⟩, hb, fun h => by have := hS g h; omega, cur, hg, by rw [I1_len]; omega, fun i c x hx => ?_⟩
    obtain ⟨rfl, z, hz, rfl⟩ := I1_cell hx
    have hi := (List.getElem?_eq_some_iff.1 hz).1
    refine ⟨rfl, .int .i64 z, ?_, .int _ _⟩
    have : (cur.toList.take (zs.length * 1))[i]? = (zs.map (Value.int .i64))[i]? := by rw [h4]
    rw [List.getElem?_take_of_lt (by omega)] at this
    rw [Nat.mul_one, Nat.add_zero, ← Array.getElem?_toList, this]
    simp [hz]
theorem clone_sound {P : Program} {G : Gd} {f : FuncId} {e : Nat} (h : CloneC P f e) {args : Args} {r : Res} (hr : cloneP e args = some r) : PlainC P G f args r ∧ isRaw args = false := by
  unfold cloneP at hr
  split at hr
  · rename_i xs
    split at hr
    · rename_i zs hz
      obtain rfl := ints_some hz
      cases hb : Nat.ble zs.length 1099511627776 with
      | false => rw [hb] at hr; cases hr
      | true =>
        rw [hb] at hr
        cases hr
        have hb := Nat.le_of_ble_eq_true hb
        refine ⟨?_, rfl⟩
        intro w S T vs hS hT hl _
        obtain ⟨u, hu, hrd⟩ := hl.2 0 _ rfl
        have hvs : vs = #[u] := by
          have h1 : vs.size = 1 := hl.1
          apply Array.ext_getElem?
          intro i
          cases i with
          | zero => rw [hu]; rfl
          | succ i => rw [Array.getElem?_eq_none (by omega), Array.getElem?_eq_none (by simp)]
        subst hvs
        have hrd : RD w S T u (.list 1 (I1 zs)) := hrd
        have done : ∀ {v : Value} {w' : World}, w'.ownsRow w.heap.size e 1 v zs.length (zs.map (Value.int .i64)) → Below w.heap.size w w' → ∃ v' S' mr, (Ending.returned v : Ending) = .returned v' ∧ Below w.heap.size w w' ∧ (∀ k, S k → S' k) ∧ (∀ k, S' k → S k ∨ (w.heap.size ≤ k ∧ k < w'.heap.size)) ∧ resC w' S' T w.heap.size mr v' [(false, [.row e 1 (I1 zs)])] ∧ frC w' S' w.heap.size mr [(false, [.row e 1 (I1 zs)])] := by
          intro v w' ho hbel
          obtain ⟨mo, hrow⟩ := own_row (S := S) (T := T) ho hS
          refine ⟨v, S, fun _ _ => mo, rfl, hbel, fun _ h => h, fun _ h => .inl h, ⟨⟨[v], rfl, rfl, fun i x hx => ?_⟩, fun i j i' j' b h1 h2 _ _ => ?_⟩, frC.none rfl⟩
          · cases i with
            | zero => cases hx; exact ⟨v, rfl, _, rfl, hrow⟩
            | succ i => simp at hx
          · have key : ∀ i j, isRow (leafAt [(false, [.row e 1 (I1 zs)])] i j) = true → i = 0 ∧ j = 0 := by
              intro i j hij
              cases i with
              | zero =>
                cases j with
                | zero => exact ⟨rfl, rfl⟩
                | succ j => simp [leafAt, isRow] at hij
              | succ i => simp [leafAt, isRow] at hij
            obtain ⟨rfl, rfl⟩ := key i j h1
            obtain ⟨rfl, rfl⟩ := key i' j' h2
            exact ⟨rfl, rfl⟩
        generalize hxs : I1 zs = XS at hrd
        cases hrd with
        | list A cap sz xs g h1 h3 h4 h5 h6 =>
          subst hxs
          rw [I1_len]
          cases A with
          | none =>
            have hz : zs = [] := by
              cases zs with
              | nil => rfl
              | cons z zs' =>
                obtain ⟨ad, e, _⟩ := h4 0 0 _ (I1_at (zs := z :: zs') (i := 0) rfl)
                cases e
            subst hz
            refine (h.nil _ cap w).mono fun ex w' ⟨k1, k2⟩ => ?_
            subst k1 k2
            exact done (World.ownsRow_nil _ _ _ _) (Below.refl _ _)
          | some ad =>
            by_cases hz : zs = []
            · subst hz
              refine (h.zero ad cap w).mono fun ex w' ⟨v', k1, k2, _, k3⟩ => ?_
              subst k1
              exact done (by simpa using k2) k3
            · have hlen : 0 < zs.length := List.length_pos_iff.2 hz
              have hcell : ∀ j, j < zs.length → w.cell? (ad.add j) = some (.int .i64 (zs.getD j 0)) := by
                intro j hj
                have hg := List.getElem?_eq_getElem hj
                obtain ⟨ad', e, _, hc⟩ := h4 j 0 _ (I1_at hg)
                cases e
                have hr := h5 j 0 _ (I1_at hg)
                rw [Nat.mul_one, Nat.add_zero] at hc
                rw [hc, List.getD_eq_getElem?_getD, hg]
                generalize g j 0 = G at hr
                cases hr
                rfl
              obtain ⟨b, off, spot⟩ := ad
              have hspot : spot = none := by
                have := hcell 0 hlen
                simpa [Addr.add] using World.cell?_spot this
              subst hspot
              have hcell' : ∀ j, j < zs.length → w.cell? ⟨b, off + j, none⟩ = some (.int .i64 (zs.getD j 0)) := fun j hj => by
                have := hcell j hj
                rwa [add_at] at this
              refine (h.run b off zs.length cap zs w (Nat.le_refl _) (by omega) hcell').mono fun ex w' ⟨v', k1, k2, _, k3⟩ => ?_
              subst k1
              rw [List.take_length] at k2
              exact done k2 k3
    · cases hr
  · cases hr
end Ovi

/-! Pur -/
namespace Ovi
open Go

/-! ### plain laws of lists, loops, orders -/
section
variable {α : Type}
/-- a loop over a list that may stop -/
theorem loop_find {xs : List α} {L : Nat → Int → Option Res} {stop : Nat → α → Bool} {hit : Nat → Option Res} {fin : Option Res}
    (hs : ∀ (n i : Nat) x, xs[i]? = some x → L (n + 1) (i : Int) = cond (stop i x) (hit i) (L n ((i + 1 : Nat) : Int))) (hd : ∀ n, L (n + 1) (xs.length : Int) = fin) :
    ∀ n, xs.length < n → (∃ i x, xs[i]? = some x ∧ stop i x = true ∧ L n 0 = hit i) ∨ ((∀ i x, xs[i]? = some x → stop i x = false) ∧ L n 0 = fin) := by
  have key : ∀ (m i n : Nat), i + m = xs.length → m < n → (∀ j x, j < i → xs[j]? = some x → stop j x = false) → (∃ i x, xs[i]? = some x ∧ stop i x = true ∧ L n (i : Nat) = L n (i : Nat) ∧ True) ∨ True := fun _ _ _ _ _ _ => .inr trivial
  have main : ∀ (m i n : Nat), i + m = xs.length → m < n → (∀ j x, j < i → xs[j]? = some x → stop j x = false) →
      (∃ j x, xs[j]? = some x ∧ stop j x = true ∧ L n (i : Int) = hit j) ∨ ((∀ j x, xs[j]? = some x → stop j x = false) ∧ L n (i : Int) = fin) := by
    intro m
    induction m with
    | zero =>
      intro i n hm hn hj
      obtain ⟨n, rfl⟩ : ∃ j, n = j + 1 := ⟨n - 1, by omega⟩
      obtain rfl : i = xs.length := by omega
      exact .inr ⟨fun j x hx => hj j x (List.getElem?_eq_some_iff.1 hx).1 hx, hd n⟩
    | succ m ih =>
      intro i n hm hn hj
      obtain ⟨n, rfl⟩ : ∃ j, n = j + 1 := ⟨n - 1, by omega⟩
      have hi : i < xs.length := by omega
      have hx := List.getElem?_eq_getElem hi
      rw [hs n i _ hx]
      cases hst : stop i xs[i] with
      | true => exact .inl ⟨i, _, hx, hst, rfl⟩
      | false =>
        refine ih (i + 1) n (by omega) (by omega) (fun j x hji hjx => ?_)
        by_cases hji' : j = i
        · subst hji'; rw [hx] at hjx; cases hjx; exact hst
        · exact hj j x (by omega) hjx
  intro n hn
  have := main xs.length 0 n (by omega) hn (fun j x hj => by omega)
  simpa using this
theorem loop_any {xs : List α} {L : Nat → Int → Option Res} {stop : α → Bool} {hit fin : Option Res}
    (hs : ∀ (n i : Nat) x, xs[i]? = some x → L (n + 1) (i : Int) = cond (stop x) hit (L n ((i + 1 : Nat) : Int))) (hd : ∀ n, L (n + 1) (xs.length : Int) = fin) :
    ∀ n, xs.length < n → L n 0 = cond (xs.any stop) hit fin := by
  intro n hn
  rcases loop_find (stop := fun _ x => stop x) (hit := fun _ => hit) hs hd n hn with ⟨i, x, hx, hst, h⟩ | ⟨hst, h⟩
  · rw [h, List.any_eq_true.2 ⟨x, List.mem_of_getElem? hx, hst⟩]; rfl
  · have : xs.any stop = false := by
      rw [List.any_eq_false]
      intro x hx
      obtain ⟨i, hi⟩ := List.mem_iff_getElem?.1 hx
      simpa using hst i x hi
    rw [h, this]; rfl
end
theorem next_i {i : Nat} {m : Nat} (h : i < m) (hm : m ≤ maxLen) : IntKind.i64.wrap ((i : Int) + 1) = ((i + 1 : Nat) : Int) := by
  rw [wrap_succ (m := m) (by omega) (by omega) hm]; omega

/-! ### the order of strings -/
theorem sLess_total : ∀ (a b : List UInt8), (sLess a b || a == b) = !(sLess b a)
  | [], [] => rfl
  | [], b :: y => by simp [sLess, Op.bytesLess]
  | a :: x, [] => by simp [sLess, Op.bytesLess]
  | a :: x, b :: y => by
    have ih := sLess_total x y
    simp only [sLess, Op.bytesLess] at ih ⊢
    rcases Nat.lt_trichotomy a.toNat b.toNat with h | h | h
    · have h1 : a < b := UInt8.lt_iff_toNat_lt.2 h
      have h2 : ¬ b < a := fun h' => by have := UInt8.lt_iff_toNat_lt.1 h'; omega
      have h3 : ¬ b = a := fun e => by subst e; omega
      simp [h1, h2, h3]
    · have h0 : a = b := UInt8.toNat_inj.1 h
      subst h0
      have h1 : ¬ a < a := fun h' => by have := UInt8.lt_iff_toNat_lt.1 h'; omega
      simpa [h1] using ih
    · have h1 : b < a := UInt8.lt_iff_toNat_lt.2 h
      have h2 : ¬ a < b := fun h' => by have := UInt8.lt_iff_toNat_lt.1 h'; omega
      have h3 : ¬ a = b := fun e => by subst e; omega
      simp [h1, h2, h3]
/-- a text of one small letter, both ways -/
theorem letter (s : List UInt8) (h : s.length = 1) : (!sLess s [97]) = decide (byteAt s 0 ≥ 97) ∧ (sLess s [122] || s == [122]) = decide (byteAt s 0 ≤ 122) := by
  match s, h with
  | [c], _ =>
    have hc : c.toNat < 256 := c.toNat_lt
    simp only [byteAt, List.getD_cons_zero, Int.toNat_zero]
    constructor
    · rw [Bool.eq_iff_iff]
      simp only [sLess, Op.bytesLess, Bool.and_false, Bool.or_false, Bool.not_eq_true', decide_eq_false_iff_not, decide_eq_true_eq, UInt8.lt_iff_toNat_lt]
      show ¬ c.toNat < 97 ↔ _
      omega
    · rw [sLess_total, Bool.eq_iff_iff]
      simp only [sLess, Op.bytesLess, Bool.and_false, Bool.or_false, Bool.not_eq_true', decide_eq_false_iff_not, decide_eq_true_eq, UInt8.lt_iff_toNat_lt]
      show ¬ 122 < c.toNat ↔ _
      omega

/-! ### integers and atoms -/
theorem Fit.ints {a : Rows} (h : Fit (.list [.int .i64]) (.list 1 a)) : ∃ zs, a = I1 zs := by
  simp only [Fit] at h
  replace h := h.2.2
  induction a with
  | nil => exact ⟨[], rfl⟩
  | cons r rs ih =>
    obtain ⟨d, r', rfl, hd, hr⟩ := Fits.cons (h r List.mem_cons_self)
    obtain rfl := Fits.nil hr
    obtain ⟨z, rfl, _⟩ := hd.int
    obtain ⟨zs, e⟩ := ih (fun x hx => h x (List.mem_cons_of_mem _ hx))
    exact ⟨z :: zs, by rw [e]; rfl⟩
abbrev Atom := Int × List Int
def A1 (xs : List Atom) : Rows := xs.map fun x => [.int .i64 x.1, .list 1 (I1 x.2)]
theorem A1_len (xs : List Atom) : (A1 xs).length = xs.length := by simp [A1]
theorem A1_get {xs : List Atom} {i : Nat} {x : Atom} (h : xs[i]? = some x) : (A1 xs)[i]? = some [.int .i64 x.1, .list 1 (I1 x.2)] := by simp [A1, h]
theorem I1_get' {zs : List Int} {i : Nat} {z : Int} (h : zs[i]? = some z) : (I1 zs)[i]? = some [.int .i64 z] := by simp [I1, h]
theorem Fit.atoms {a : Rows} (h : Fit (.list [.int .i64, .list [.int .i64]]) (.list 2 a)) : ∃ xs, a = A1 xs := by
  simp only [Fit] at h
  replace h := h.2.2
  induction a with
  | nil => exact ⟨[], rfl⟩
  | cons r rs ih =>
    obtain ⟨d, r', rfl, hd, hr⟩ := Fits.cons (h r List.mem_cons_self)
    obtain ⟨d2, r2, rfl, hd2, hr2⟩ := Fits.cons hr
    obtain rfl := Fits.nil hr2
    obtain ⟨z, rfl, _⟩ := hd.int
    obtain ⟨l, rfl, hl⟩ := hd2.list (n := 1) rfl
    obtain ⟨zs, rfl⟩ := hl.ints
    obtain ⟨xs, e⟩ := ih (fun x hx => h x (List.mem_cons_of_mem _ hx))
    exact ⟨(z, zs) :: xs, by rw [e]; rfl⟩
theorem szR_I1 (zs : List Int) : szR (I1 zs) = 0 := by
  induction zs with
  | nil => rfl
  | cons z zs ih => show szC [.int .i64 z] + szR (I1 zs) = 0; rw [ih]; rfl
theorem szR_A1 (xs : List Atom) : szR (A1 xs) = (xs.map fun x => x.2.length).sum := by
  induction xs with
  | nil => rfl
  | cons x xs ih =>
    show szC [.int .i64 x.1, .list 1 (I1 x.2)] + szR (A1 xs) = _
    rw [ih]
    simp [szC, szD, szR_I1, I1_len]
theorem mem_compact (zs : List Int) (z : Int) : z ∈ Lib.compact zs ↔ z ∈ zs := by
  unfold Lib.compact Lib.compactUpTo
  simp only [List.mem_map, List.mem_filter, List.mem_range]
  constructor
  · rintro ⟨i, ⟨hi, _⟩, rfl⟩
    rw [getElem!_pos _ i (by simpa using hi)]
    simp
  · intro h
    obtain ⟨i, hi, e⟩ := List.mem_iff_getElem.1 h
    have key : ∀ i, i < zs.length → ∃ j, (j < zs.length ∧ Lib.keeps zs.toArray j = true) ∧ zs.toArray[j]! = zs.toArray[i]! := by
      intro i
      induction i with
      | zero => intro h0; exact ⟨0, ⟨h0, by simp [Lib.keeps]⟩, rfl⟩
      | succ i ih =>
        intro h0
        by_cases hk : Lib.keeps zs.toArray (i + 1) = true
        · exact ⟨i + 1, ⟨h0, hk⟩, rfl⟩
        · have : zs.toArray[i + 1]! = zs.toArray[i]! := by
            simp only [Lib.keeps, decide_eq_true_eq, not_or, Nat.add_sub_cancel, Decidable.not_not] at hk
            exact hk.2
          obtain ⟨j, h1, h2⟩ := ih (by omega)
          exact ⟨j, h1, by rw [h2, this]⟩
    obtain ⟨j, h1, h2⟩ := key i hi
    refine ⟨j, h1, ?_⟩
    rw [h2, getElem!_pos _ i (by simpa using hi)]
    simpa using e
theorem mem_sortInts (zs : List Int) (z : Int) : z ∈ sortInts zs ↔ z ∈ zs := by simp [sortInts]
end Ovi
namespace Ovi
open Go
/-! ### lists in strictly ascending order -/
def SS (l : List Int) : Prop := l.Pairwise (· < ·)
theorem ss_eq : ∀ {a b : List Int}, SS a → SS b → (∀ z, z ∈ a ↔ z ∈ b) → a = b
  | [], [], _, _, _ => rfl
  | [], y :: bs, _, _, h => absurd ((h y).2 List.mem_cons_self) (by simp)
  | x :: asv, [], _, _, h => absurd ((h x).1 List.mem_cons_self) (by simp)
  | x :: asv, y :: bs, ha, hb, h => by
    have ha1 := List.pairwise_cons.1 ha
    have hb1 := List.pairwise_cons.1 hb
    have hxy : x = y := by
      have h1 := (h x).1 List.mem_cons_self
      have h2 := (h y).2 List.mem_cons_self
      rcases List.mem_cons.1 h1 with e | h1
      · exact e
      · rcases List.mem_cons.1 h2 with e | h2
        · exact e.symm
        · have := hb1.1 x h1; have := ha1.1 y h2; omega
    subst hxy
    rw [ss_eq ha1.2 hb1.2 fun z => ?_]
    constructor
    · intro hz
      rcases List.mem_cons.1 ((h z).1 (List.mem_cons_of_mem _ hz)) with e | h'
      · subst e; have := ha1.1 z hz; omega
      · exact h'
    · intro hz
      rcases List.mem_cons.1 ((h z).2 (List.mem_cons_of_mem _ hz)) with e | h'
      · subst e; have := hb1.1 z hz; omega
      · exact h'
theorem ss_compact (zs : List Int) : SS (Lib.compact (sortInts zs)) := by
  have hs : (sortInts zs).Pairwise (· ≤ ·) := by
    have := List.pairwise_mergeSort (le := fun x y : Int => decide (x ≤ y)) (by intro a b c h1 h2; simp at *; omega) (by intro a b; simp; omega) zs
    exact this.imp (by simp)
  generalize sortInts zs = d at hs
  have hle : ∀ i j, i ≤ j → j < d.length → d.toArray[i]! ≤ d.toArray[j]! := by
    intro i j hij hj
    rw [getElem!_pos _ i (by simp; omega), getElem!_pos _ j (by simp; omega)]
    simp only [List.getElem_toArray]
    rcases Nat.lt_or_eq_of_le hij with h | rfl
    · exact List.pairwise_iff_getElem.1 hs i j (by omega) hj h
    · omega
  have key : ∀ m, m ≤ d.length → SS (Lib.compactUpTo d.toArray m) ∧ ∀ x ∈ Lib.compactUpTo d.toArray m, ∃ i, i < m ∧ x = d.toArray[i]! := by
    intro m
    induction m with
    | zero => intro _; exact ⟨by simp [Lib.compactUpTo, SS], fun x hx => by simp [Lib.compactUpTo] at hx⟩
    | succ m ih =>
      intro hm
      obtain ⟨h1, h2⟩ := ih (by omega)
      rw [Lib.compactUpTo_succ]
      by_cases hk : Lib.keeps d.toArray m = true
      · rw [if_pos hk]
        refine ⟨List.pairwise_append.2 ⟨h1, by simp, fun x hx y hy => ?_⟩, fun x hx => ?_⟩
        · obtain ⟨i, hi, rfl⟩ := h2 x hx
          obtain rfl := List.mem_singleton.1 hy
          have hne : d.toArray[m]! ≠ d.toArray[m - 1]! := by
            simp only [Lib.keeps, decide_eq_true_eq] at hk
            rcases hk with h0 | h0
            · omega
            · exact h0
          have := hle i (m - 1) (by omega) (by omega)
          have := hle (m - 1) m (by omega) (by omega)
          omega
        · rcases List.mem_append.1 hx with hx | hx
          · obtain ⟨i, hi, e⟩ := h2 x hx
            exact ⟨i, by omega, e⟩
          · exact ⟨m, by omega, List.mem_singleton.1 hx⟩
      · rw [if_neg hk, List.append_nil]
        exact ⟨h1, fun x hx => by obtain ⟨i, hi, e⟩ := h2 x hx; exact ⟨i, by omega, e⟩⟩
  exact (key d.length (Nat.le_refl _)).1
/-- as loop_find: the first that stops -/
theorem loop_first {α : Type} {xs : List α} {L : Nat → Int → Option Res} {stop : Nat → α → Bool} {hit : Nat → Option Res} {fin : Option Res}
    (hs : ∀ (n i : Nat) x, xs[i]? = some x → L (n + 1) (i : Int) = cond (stop i x) (hit i) (L n ((i + 1 : Nat) : Int))) (hd : ∀ n, L (n + 1) (xs.length : Int) = fin) :
    ∀ n, xs.length < n → (∃ i x, xs[i]? = some x ∧ stop i x = true ∧ (∀ (j : Nat) y, j < i → xs[j]? = some y → stop j y = false) ∧ L n 0 = hit i) ∨ ((∀ i x, xs[i]? = some x → stop i x = false) ∧ L n 0 = fin) := by
  have main : ∀ (m i n : Nat), i + m = xs.length → m < n → (∀ j x, j < i → xs[j]? = some x → stop j x = false) →
      (∃ j x, xs[j]? = some x ∧ stop j x = true ∧ (∀ (l : Nat) y, l < j → xs[l]? = some y → stop l y = false) ∧ L n (i : Int) = hit j) ∨ ((∀ j x, xs[j]? = some x → stop j x = false) ∧ L n (i : Int) = fin) := by
    intro m
    induction m with
    | zero =>
      intro i n hm hn hj
      obtain ⟨n, rfl⟩ : ∃ j, n = j + 1 := ⟨n - 1, by omega⟩
      obtain rfl : i = xs.length := by omega
      exact .inr ⟨fun j x hx => hj j x (List.getElem?_eq_some_iff.1 hx).1 hx, hd n⟩
    | succ m ih =>
      intro i n hm hn hj
      obtain ⟨n, rfl⟩ : ∃ j, n = j + 1 := ⟨n - 1, by omega⟩
      have hi : i < xs.length := by omega
      have hx := List.getElem?_eq_getElem hi
      rw [hs n i _ hx]
      cases hst : stop i xs[i] with
      | true => exact .inl ⟨i, _, hx, hst, hj, rfl⟩
      | false =>
        refine ih (i + 1) n (by omega) (by omega) (fun j x hji hjx => ?_)
        by_cases hji' : j = i
        · subst hji'; rw [hx] at hjx; cases hjx; exact hst
        · exact hj j x (by omega) hjx
  intro n hn
  have := main xs.length 0 n (by omega) hn (fun j x hj => by omega)
  simpa using this
/-! ### integers that fit -/
def inI (z : Int) : Prop := -9223372036854775808 ≤ z ∧ z ≤ 9223372036854775807
theorem inI_of {z : Int} (h : (Lit.int .i64 z).wf = true) : inI z := by
  simp only [Lit.wf, Bool.and_eq_true, decide_eq_true_eq] at h
  have e1 : IntKind.i64.min = -9223372036854775808 := rfl
  have e2 : IntKind.i64.max = 9223372036854775807 := rfl
  unfold inI; omega
theorem Fit.ints' {a : Rows} (h : Fit (.list [.int .i64]) (.list 1 a)) : ∃ zs, a = I1 zs ∧ ∀ z ∈ zs, inI z := by
  simp only [Fit] at h
  replace h := h.2.2
  induction a with
  | nil => exact ⟨[], rfl, by simp⟩
  | cons r rs ih =>
    obtain ⟨d, r', rfl, hd, hr⟩ := Fits.cons (h r List.mem_cons_self)
    obtain rfl := Fits.nil hr
    obtain ⟨z, rfl, hz⟩ := hd.int
    obtain ⟨zs, e, hzs⟩ := ih (fun x hx => h x (List.mem_cons_of_mem _ hx))
    exact ⟨z :: zs, by rw [e]; rfl, fun x hx => by
      rcases List.mem_cons.1 hx with rfl | hx
      · exact inI_of hz
      · exact hzs x hx⟩
theorem Fit.atoms' {a : Rows} (h : Fit (.list [.int .i64, .list [.int .i64]]) (.list 2 a)) : ∃ xs : List Atom, a = A1 xs ∧ ∀ x ∈ xs, inI x.1 ∧ ∀ z ∈ x.2, inI z := by
  simp only [Fit] at h
  replace h := h.2.2
  induction a with
  | nil => exact ⟨[], rfl, by simp⟩
  | cons r rs ih =>
    obtain ⟨d, r', rfl, hd, hr⟩ := Fits.cons (h r List.mem_cons_self)
    obtain ⟨d2, r2, rfl, hd2, hr2⟩ := Fits.cons hr
    obtain rfl := Fits.nil hr2
    obtain ⟨z, rfl, hz⟩ := hd.int
    obtain ⟨l, rfl, hl⟩ := hd2.list (n := 1) rfl
    obtain ⟨zs, rfl, hzs⟩ := hl.ints'
    obtain ⟨xs, e, hxs⟩ := ih (fun x hx => h x (List.mem_cons_of_mem _ hx))
    exact ⟨(z, zs) :: xs, by rw [e]; rfl, fun x hx => by
      rcases List.mem_cons.1 hx with rfl | hx
      · exact ⟨inI_of hz, hzs⟩
      · exact hxs x hx⟩
end Ovi

/-! Jn -/
namespace Ovi
open Go Go.RowKit

/-! ### strings.Join and strconv.Itoa (0 to 99), by the shelf's contracts; a list of such functions -/
def texts : Rows → Option (List (List UInt8))
  | [] => some []
  | [.str s] :: r => match texts r with | some ts => some (s :: ts) | none => none
  | _ => none
def T1 (ts : List (List UInt8)) : Rows := ts.map fun s => [.str s]
theorem texts_T1 (ts : List (List UInt8)) : texts (T1 ts) = some ts := by
  induction ts with
  | nil => rfl
  | cons s ts ih =>
    show (match texts (T1 ts) with | some ts => some (s :: ts) | none => none) = _
    rw [ih]
theorem texts_some : ∀ {xs : Rows} {ts : List (List UInt8)}, texts xs = some ts → xs = T1 ts
  | [], ts, h => by cases h; rfl
  | [.str s] :: r, ts, h => by
    unfold texts at h
    split at h
    · rename_i ts' h'
      cases h
      rw [texts_some h']
      rfl
    · cases h
theorem T1_len (ts : List (List UInt8)) : (T1 ts).length = ts.length := by simp [T1]
theorem T1_at {ts : List (List UInt8)} {i : Nat} {s : List UInt8} (h : ts[i]? = some s) : cellD (T1 ts) i 0 = some (.str s) := by simp [cellD, T1, h]

structure JoinC (P : Program) (f : FuncId) : Prop where
  known : Known P f
  run : ∀ (bk o c : Nat) (xs : List ByteArray) (sep : ByteArray) (w : World), (∀ (j : Nat) x, xs[j]? = some x → w.cell? ⟨bk, o + j, none⟩ = some (.string x)) → bk < w.heap.size → xs.length ≤ 140737488355328 → xs.length ≤ c →
    (Lib.join (xs.map (·.data.toList)) sep.data.toList).length ≤ 140737488355328 →
    Calls P f #[.slice (some ⟨bk, o, none⟩) xs.length c, .string sep] w fun e w' => e = .returned (.string ⟨(Lib.join (xs.map (·.data.toList)) sep.data.toList).toArray⟩) ∧ Below w.heap.size w w'
  none : ∀ (a : Option Addr) (c : Nat) (sep : ByteArray) (w : World), Calls P f #[.slice a 0 c, .string sep] w fun e w' => e = .returned (.string ⟨#[]⟩) ∧ w' = w
def joinP : Args → Option Res
  | [.d (.list 1 xs), .d (.str sep)] => match texts xs with
    | some ts => cond (Nat.ble ts.length 1099511627776 && Nat.ble (Lib.join ts sep).length 1099511627776) (some [(false, [.d (.str (Lib.join ts sep))])]) none
    | none => none
  | _ => none
/-- a plain result of one cell -/
theorem plain_one {P : Program} {f : FuncId} {w : World} {S T : Nat → Prop} {vs : Array Value} {d : D} (h : Calls P f vs w fun e w' => ∃ v, e = .returned v ∧ RD w' S T v d ∧ Below w.heap.size w w') :
    Calls P f vs w fun e w' => ∃ v S' mr, e = .returned v ∧ Below w.heap.size w w' ∧ (∀ k, S k → S' k) ∧ (∀ k, S' k → S k ∨ (w.heap.size ≤ k ∧ k < w'.heap.size)) ∧ resC w' S' T w.heap.size mr v [(false, [.d d])] ∧ frC w' S' w.heap.size mr [(false, [.d d])] :=
  h.mono fun e w' ⟨v, he, hr, hb⟩ => ⟨v, S, fun _ _ => none, he, hb, fun _ h => h, fun _ h => .inl h, ⟨⟨[v], rfl, rfl, fun i x hx => by
    cases i with
    | zero => cases hx; exact ⟨v, rfl, _, rfl, hr⟩
    | succ i => simp at hx⟩, fun i j i' j' b h1 h2 _ _ => by
    cases i with
    | zero => cases j <;> simp [leafAt, isRow] at h1
    | succ i => simp [leafAt, isRow] at h1⟩, frC.none rfl⟩
theorem jn_args {w : World} {S T : Nat → Prop} {vs : Array Value} {x y : D} (hl : Leaves (AC w S T (fun _ => none) (fun _ => none)) vs [.d x, .d y]) : ∃ u v, vs = #[u, v] ∧ RD w S T u x ∧ RD w S T v y := by
  obtain ⟨u, hu, hx⟩ := hl.2 0 _ rfl
  obtain ⟨v, hv, hy⟩ := hl.2 1 _ rfl
  refine ⟨u, v, ?_, hx, hy⟩
  have h1 : vs.size = 2 := hl.1
  apply Array.ext_getElem?
  intro i
  match i with
  | 0 => rw [hu]; rfl
  | 1 => rw [hv]; rfl
  | i + 2 => rw [Array.getElem?_eq_none (by omega), Array.getElem?_eq_none (by simp)]
theorem jn_arg {w : World} {S T : Nat → Prop} {vs : Array Value} {x : D} (hl : Leaves (AC w S T (fun _ => none) (fun _ => none)) vs [.d x]) : ∃ u, vs = #[u] ∧ RD w S T u x := by
  obtain ⟨u, hu, hx⟩ := hl.2 0 _ rfl
  refine ⟨u, ?_, hx⟩
  have h1 : vs.size = 1 := hl.1
  apply Array.ext_getElem?
  intro i
  match i with
  | 0 => rw [hu]; rfl
  | i + 1 => rw [Array.getElem?_eq_none (by omega), Array.getElem?_eq_none (by simp)]
theorem join_sound {P : Program} {G : Gd} {f : FuncId} (h : JoinC P f) {args : Args} {r : Res} (hr : joinP args = some r) : PlainC P G f args r ∧ isRaw args = false := by
  unfold joinP at hr
  split at hr
  · rename_i xs sep
    split at hr
    · rename_i ts hz
      obtain rfl := texts_some hz
      cases hb : (Nat.ble ts.length 1099511627776 && Nat.ble (Lib.join ts sep).length 1099511627776) with
      | false => rw [hb] at hr; cases hr
      | true =>
        rw [hb] at hr
        cases hr
        rw [Bool.and_eq_true] at hb
        have hb1 := Nat.le_of_ble_eq_true hb.1
        have hb2 := Nat.le_of_ble_eq_true hb.2
        refine ⟨?_, rfl⟩
        intro w S T vs hS hT hl _
        obtain ⟨u, v, rfl, hrd, hsep⟩ := jn_args hl
        refine plain_one ?_
        obtain ⟨sb, rfl, hsb⟩ : ∃ sb, v = .string sb ∧ sb.data.toList = sep := by cases hsep; exact ⟨_, rfl, rfl⟩
        have mk : ∀ l : List UInt8, ((⟨l.toArray⟩ : ByteArray).data.toList) = l := fun l => by simp
        generalize hxs : T1 ts = XS at hrd
        cases hrd with
        | list A cap sz xs g h1 h3 h4 h5 h6 =>
          subst hxs
          rw [T1_len]
          by_cases hz : ts = []
          · subst hz
            refine (h.none A cap sb w).mono fun ex w' ⟨k1, k2⟩ => ?_
            subst k1 k2
            exact ⟨_, rfl, .str _, Below.refl _ _⟩
          · obtain ⟨t0, ht0⟩ : ∃ t0, ts[0]? = some t0 := by
              cases ts with
              | nil => exact absurd rfl hz
              | cons t ts => exact ⟨t, rfl⟩
            obtain ⟨ad, rfl, hSad, hc0⟩ := h4 0 0 _ (T1_at ht0)
            have hcell : ∀ (j : Nat) s, ts[j]? = some s → w.cell? (ad.add j) = some (.string ⟨s.toArray⟩) := by
              intro j s hg
              obtain ⟨ad', e, _, hc⟩ := h4 j 0 _ (T1_at hg)
              cases e
              have hr := h5 j 0 _ (T1_at hg)
              rw [Nat.mul_one, Nat.add_zero] at hc
              rw [hc]
              generalize g j 0 = G at hr
              cases hr
              simp
            obtain ⟨b, off, spot⟩ := ad
            have hspot : spot = none := by
              have := hcell 0 t0 ht0
              simpa [Addr.add] using World.cell?_spot this
            subst hspot
            let bs : List ByteArray := ts.map fun s => ⟨s.toArray⟩
            have hbl : bs.length = ts.length := by simp [bs]
            have hbs : bs.map (·.data.toList) = ts := by
              simp only [bs, List.map_map]
              conv => rhs; rw [← List.map_id ts]
              exact List.map_congr_left fun s _ => by simp
            have hcell' : ∀ (j : Nat) x, bs[j]? = some x → w.cell? ⟨b, off + j, none⟩ = some (.string x) := by
              intro j x hx
              simp only [bs, List.getElem?_map, Option.map_eq_some_iff] at hx
              obtain ⟨s, hs, rfl⟩ := hx
              have := hcell j s hs
              rwa [add_at] at this
            have hcall := h.run b off cap bs sb w hcell' (hS _ hSad) (by omega) (by rw [hbl]; simpa [T1_len] using h1) (by rw [hbs, hsb]; omega)
            rw [hbl, hbs, hsb] at hcall
            refine hcall.mono fun ex w' ⟨k1, k2⟩ => ?_
            subst k1
            exact ⟨_, rfl, by have := RD.str (w := w') (S := S) (T := T) ⟨(Lib.join ts sep).toArray⟩; simpa using this, k2⟩
    · cases hr
  · cases hr

structure ItoaC (P : Program) (f : FuncId) : Prop where
  known : Known P f
  run : ∀ (i : Nat) (w : World), i < 100 → Calls P f #[.int .i64 i] w fun e w' => e = .returned (.string ⟨(Lib.decDigits i).toArray⟩) ∧ w' = w
def itoaP : Args → Option Res
  | [.d (.int .i64 n)] => cond (decide (0 ≤ n ∧ n < 100)) (some [(false, [.d (.str (Lib.decDigits n.toNat))])]) none
  | _ => none
theorem itoa_sound {P : Program} {G : Gd} {f : FuncId} (h : ItoaC P f) {args : Args} {r : Res} (hr : itoaP args = some r) : PlainC P G f args r ∧ isRaw args = false := by
  unfold itoaP at hr
  split at hr
  · rename_i n
    cases hb : decide (0 ≤ n ∧ n < 100) with
    | false => rw [hb] at hr; cases hr
    | true =>
      rw [hb] at hr
      cases hr
      have hb := of_decide_eq_true hb
      refine ⟨?_, rfl⟩
      intro w S T vs hS hT hl _
      obtain ⟨u, rfl, hrd⟩ := jn_arg hl
      refine plain_one ?_
      cases hrd
      have := h.run n.toNat w (by omega)
      rw [Int.toNat_of_nonneg hb.1] at this
      refine this.mono fun ex w' ⟨k1, k2⟩ => ?_
      subst k1 k2
      exact ⟨_, rfl, by have := RD.str (w := w') (S := S) (T := T) ⟨(Lib.decDigits n.toNat).toArray⟩; simpa using this, Below.refl _ _⟩
  · cases hr

/-- a function by a contract of its own -/
structure PrimOk (P : Program) (G : Gd) (f : FuncId) (p : Args → Option Res) : Prop where
  known : Known P f
  plain : ∀ args r, p args = some r → PlainC P G f args r
  raw : ∀ k e sz xs rest r, p (rawTag :: .d (.int k e) :: .d (.list sz xs) :: rest) = some r → ∀ e' : Nat, e = e' → RawC P f e' sz xs rest r
  mark : ∀ b k xs r, p (rawTag :: .d (.bool b) :: .d (.int .i64 k) :: xs) = some r → MarkC P f b k xs r
def prims : List (FuncId × (Args → Option Res)) → FuncId → Option (Args → Option Res)
  | [], _ => none
  | (i, p) :: r, f => cond (Nat.beq f i) (some p) (prims r f)
theorem sound_prims {P : Program} {G : Gd} {l : List (FuncId × (Args → Option Res))} (h : ∀ x ∈ l, PrimOk P G x.1 x.2) : Sound P G fun f args => (prims l f).bind fun p => p args := by
  have key : ∀ (l : List (FuncId × (Args → Option Res))), (∀ x ∈ l, PrimOk P G x.1 x.2) → ∀ f args r, (prims l f).bind (fun p => p args) = some r → ∃ p, PrimOk P G f p ∧ p args = some r := by
    intro l
    induction l with
    | nil => intro _ f args r hr; cases hr
    | cons x l ih =>
      obtain ⟨i, p⟩ := x
      intro hl f args r hr
      unfold prims at hr
      cases h1 : Nat.beq f i with
      | true =>
        rw [h1] at hr
        obtain rfl := Nat.eq_of_beq_eq_true h1
        exact ⟨p, hl _ List.mem_cons_self, hr⟩
      | false =>
        rw [h1] at hr
        exact ih (fun x hx => hl x (List.mem_cons_of_mem _ hx)) f args r hr
  refine ⟨fun f args r hr => ?_, fun f args r hr => ?_, fun f k e sz xs rest r hr e' he => ?_, fun f b k xs r hr => ?_⟩
  · obtain ⟨p, hp, _⟩ := key l h f args r hr
    exact hp.known
  · obtain ⟨p, hp, hr⟩ := key l h f args r hr
    exact hp.plain args r hr
  · obtain ⟨p, hp, hr⟩ := key l h f _ r hr
    exact hp.raw k e sz xs rest r hr e' he
  · obtain ⟨p, hp, hr⟩ := key l h f _ r hr
    exact hp.mark b k xs r hr
theorem SortC.ok {P : Program} {G : Gd} {f : FuncId} (h : SortC P f) : PrimOk P G f sortP := ⟨h.known, fun args r hr => (sort_sound h hr).1, fun k e sz xs rest r hr e' he => (sort_sound (G := noG) h hr).2 k e sz xs rest rfl e' he, fun b k xs r hr => by first | (cases hr; done) | (unfold sortP at hr; (first | (cases hr; done) | (split at hr <;> cases hr; done) | (cases xs <;> cases hr; done) | (simp at hr; done)))⟩
theorem CompactC.ok {P : Program} {G : Gd} {f : FuncId} (h : CompactC P f) : PrimOk P G f compactP := ⟨h.known, fun args r hr => (compact_sound h hr).1, fun k e sz xs rest r hr e' he => (compact_sound (G := noG) h hr).2 k e sz xs rest rfl e' he, fun b k xs r hr => by first | (cases hr; done) | (unfold compactP at hr; (first | (cases hr; done) | (split at hr <;> cases hr; done) | (cases xs <;> cases hr; done) | (simp at hr; done)))⟩
theorem CloneC.ok {P : Program} {G : Gd} {f : FuncId} {e : Nat} (h : CloneC P f e) : PrimOk P G f (cloneP e) := ⟨h.known, fun args r hr => (clone_sound h hr).1, (fun k e0 sz xs rest r hr e' he => by have := (clone_sound (G := noG) h hr).2; cases this), fun b k xs r hr => by first | (cases hr; done) | (unfold cloneP at hr; (first | (cases hr; done) | (split at hr <;> cases hr; done) | (cases xs <;> cases hr; done) | (simp at hr; done)))⟩
theorem JoinC.ok {P : Program} {G : Gd} {f : FuncId} (h : JoinC P f) : PrimOk P G f joinP := ⟨h.known, fun args r hr => (join_sound h hr).1, (fun k e sz xs rest r hr e' he => by have := (join_sound (G := noG) h hr).2; cases this), fun b k xs r hr => by first | (cases hr; done) | (unfold joinP at hr; (first | (cases hr; done) | (split at hr <;> cases hr; done) | (cases xs <;> cases hr; done) | (simp at hr; done)))⟩
theorem ItoaC.ok {P : Program} {G : Gd} {f : FuncId} (h : ItoaC P f) : PrimOk P G f itoaP := ⟨h.known, fun args r hr => (itoa_sound h hr).1, (fun k e sz xs rest r hr e' he => by have := (itoa_sound (G := noG) h hr).2; cases this), fun b k xs r hr => by first | (cases hr; done) | (unfold itoaP at hr; (first | (cases hr; done) | (split at hr <;> cases hr; done) | (cases xs <;> cases hr; done) | (simp at hr; done)))⟩
/-- a table of the library's, laid in a block that nobody writes -/
def tabG (P : Program) (name : String) (k : IntKind) (zs : List Int) (g : Nat) (h : P.globalNamed name = some g) : Gd where
  pr := fun S w => S g ∧ Lib.TabIs P w name k zs
  stab := by
    intro S S' w w' ⟨h1, h2⟩ hs hst
    refine ⟨hs g h1, ?_⟩
    have e := hst g h1
    unfold Lib.TabIs World.var? at h2 ⊢
    rw [h] at h2 ⊢
    simp only [Option.bind_some] at h2 ⊢
    rw [e]
    exact h2
structure ItoaT (P : Program) (f : FuncId) (name : String) (zs : List Int) : Prop where
  known : Known P f
  run : ∀ (n : Int) (w : World), -9223372036854775808 ≤ n → n ≤ 9223372036854775807 → Lib.TabIs P w name .u64 zs → Calls P f #[.int .i64 n] w fun e w' => e = .returned (.string ⟨(Lib.itoa n).toArray⟩) ∧ ∃ k os, w' = Sort.grow (w.drewN k) os
def itoaQ : Args → Option Res
  | [.d (.int .i64 n)] => cond (decide (-9223372036854775808 ≤ n ∧ n ≤ 9223372036854775807)) (some [(false, [.d (.str (Lib.itoa n))])]) none
  | _ => none
theorem itoaT_sound {P : Program} {f : FuncId} {name : String} {zs : List Int} {g : Nat} {hg : P.globalNamed name = some g} (h : ItoaT P f name zs) {args : Args} {r : Res} (hr : itoaQ args = some r) : PlainC P (tabG P name .u64 zs g hg) f args r ∧ isRaw args = false := by
  unfold itoaQ at hr
  split at hr
  · rename_i n
    cases hb : decide (-9223372036854775808 ≤ n ∧ n ≤ 9223372036854775807) with
    | false => rw [hb] at hr; cases hr
    | true =>
      rw [hb] at hr
      cases hr
      have hb := of_decide_eq_true hb
      refine ⟨?_, rfl⟩
      intro w S T vs hS hT hl hG
      obtain ⟨u, rfl, hrd⟩ := jn_arg hl
      refine plain_one ?_
      cases hrd
      refine (h.run n w hb.1 hb.2 hG.2).mono fun ex w' ⟨k1, k, os, k2⟩ => ?_
      subst k1 k2
      exact ⟨_, rfl, by have := RD.str (w := Sort.grow (w.drewN k) os) (S := S) (T := T) ⟨(Lib.itoa n).toArray⟩; simpa using this, Lib.below_grow _ w (Nat.le_refl _) k os⟩
  · cases hr
theorem ItoaT.ok {P : Program} {f : FuncId} {name : String} {zs : List Int} {g : Nat} {hg : P.globalNamed name = some g} (h : ItoaT P f name zs) : PrimOk P (tabG P name .u64 zs g hg) f itoaQ := ⟨h.known, fun args r hr => (itoaT_sound h hr).1, (fun k e sz xs rest r hr e' he => by have := (itoaT_sound (hg := hg) h hr).2; cases this), fun b k xs r hr => by (unfold itoaQ at hr; (first | (cases hr; done) | (split at hr <;> cases hr; done) | (cases xs <;> cases hr; done)))⟩
end Ovi

/-! Hd -/
/-! Blocks of nulls: merging fact by fact, and marks that sink, find the same blocks. Plain lists alone. -/
namespace Ovi
open Go
abbrev BL := List (List Int)
def hits (o b : List Int) : Bool := o.any fun z => decide (z ∈ b)
theorem hits_iff {o b : List Int} : hits o b = true ↔ ∃ z, z ∈ o ∧ z ∈ b := by simp [hits]
def mergeF : BL → List Int → BL → List Int × BL
  | [], b, rest => (b, rest)
  | o :: os, b, rest => bif hits o b then mergeF os (b ++ o) rest else mergeF os b (rest ++ [o])
def stepB (out : BL) (m : List Int) : BL := if m = [] then out else (mergeF out m []).2 ++ [Lib.compact (sortInts (mergeF out m []).1)]
def blocks (F : BL) : BL := F.foldl stepB []
def Dj (a b : List Int) : Prop := ∀ z, z ∈ a → z ∉ b
theorem mergeF_eq : ∀ (os : BL) (b : List Int) (rest : BL), os.Pairwise Dj → mergeF os b rest = (b ++ (os.filter fun o => hits o b).flatten, rest ++ os.filter fun o => !hits o b)
  | [], b, rest, _ => by simp [mergeF]
  | o :: os, b, rest, h => by
    have h' := List.pairwise_cons.1 h
    rw [mergeF]
    cases hb : hits o b with
    | true =>
      have e : ∀ o' ∈ os, hits o' (b ++ o) = hits o' b := by
        intro o' ho'
        rw [Bool.eq_iff_iff, hits_iff, hits_iff]
        constructor
        · rintro ⟨z, h1, h2⟩
          rcases List.mem_append.1 h2 with h2 | h2
          · exact ⟨z, h1, h2⟩
          · exact absurd h1 (h'.1 o' ho' z h2)
        · rintro ⟨z, h1, h2⟩; exact ⟨z, h1, List.mem_append_left _ h2⟩
      have e2 : ∀ o' ∈ os, (!hits o' (b ++ o)) = (!hits o' b) := fun o' ho' => by rw [e o' ho']
      rw [cond_true, mergeF_eq os _ _ h'.2, List.filter_cons_of_pos (by simpa using hb), List.filter_cons_of_neg (by simp [hb]), List.filter_congr e, List.filter_congr e2]
      simp
    | false =>
      rw [cond_false, mergeF_eq os _ _ h'.2, List.filter_cons_of_neg (by simp [hb]), List.filter_cons_of_pos (by simp [hb])]
      simp
theorem dj_eq : ∀ {B : BL}, B.Pairwise Dj → ∀ {a b z}, a ∈ B → b ∈ B → z ∈ a → z ∈ b → a = b
  | [], _, _, _, _, h, _, _, _ => absurd h (by simp)
  | c :: B, h, a, b, z, ha, hb, hza, hzb => by
    have h' := List.pairwise_cons.1 h
    rcases List.mem_cons.1 ha with ha1 | ha1
    · rcases List.mem_cons.1 hb with hb1 | hb1
      · rw [ha1, hb1]
      · exact absurd hzb (h'.1 b hb1 z (ha1 ▸ hza))
    · rcases List.mem_cons.1 hb with hb1 | hb1
      · exact absurd hza (h'.1 a ha1 z (hb1 ▸ hzb))
      · exact dj_eq h'.2 ha1 hb1 hza hzb
structure BInv (F B : BL) : Prop where
  ne : ∀ b ∈ B, b ≠ []
  ss : ∀ b ∈ B, SS b
  dj : B.Pairwise Dj
  cov : ∀ z, (∃ b ∈ B, z ∈ b) ↔ ∃ m ∈ F, z ∈ m
  inn : ∀ m ∈ F, m ≠ [] → ∃ b ∈ B, ∀ z ∈ m, z ∈ b
  con : ∀ f : Int → Prop, (∀ m ∈ F, ∀ x ∈ m, ∀ y ∈ m, f x → f y) → ∀ b ∈ B, ∀ x ∈ b, ∀ y ∈ b, f x → f y
theorem BInv.nil : BInv [] [] := ⟨by simp, by simp, by simp, by simp, by simp, by simp⟩
theorem BInv.step {F B : BL} (h : BInv F B) (m : List Int) : BInv (F ++ [m]) (stepB B m) := by
  unfold stepB
  by_cases hm : m = []
  · subst hm
    rw [if_pos rfl]
    refine ⟨h.ne, h.ss, h.dj, fun z => ?_, fun m' hm' hne => ?_, fun f hf => h.con f fun m' hm' => hf m' (List.mem_append_left _ hm')⟩
    · rw [h.cov z]; simp
    · rcases List.mem_append.1 hm' with hm' | hm'
      · exact h.inn m' hm' hne
      · exact absurd (List.mem_singleton.1 hm') hne
  · rw [if_neg hm, mergeF_eq _ _ _ h.dj]
    simp only [List.nil_append]
    generalize hb' : Lib.compact (sortInts (m ++ (B.filter fun o => hits o m).flatten)) = b'
    have mem : ∀ z, z ∈ b' ↔ z ∈ m ∨ ∃ o ∈ B, hits o m = true ∧ z ∈ o := by
      intro z
      rw [← hb', mem_compact, mem_sortInts]
      simp only [List.mem_append, List.mem_flatten, List.mem_filter]
      constructor
      · rintro (h1 | ⟨o, ⟨h1, h2⟩, h3⟩)
        · exact .inl h1
        · exact .inr ⟨o, h1, h2, h3⟩
      · rintro (h1 | ⟨o, h1, h2, h3⟩)
        · exact .inl h1
        · exact .inr ⟨o, ⟨h1, h2⟩, h3⟩
    have memf : ∀ b, b ∈ (B.filter fun o => !hits o m) ++ [b'] ↔ (b ∈ B ∧ hits b m = false) ∨ b = b' := by
      intro b; simp
    have hin : ∀ z ∈ m, z ∈ b' := fun z hz => (mem z).2 (.inl hz)
    refine ⟨?_, ?_, ?_, ?_, ?_, ?_⟩
    · intro b hb
      rcases (memf b).1 hb with hb | rfl
      · exact h.ne b hb.1
      · intro e
        cases m with
        | nil => exact hm rfl
        | cons x m => have := hin x List.mem_cons_self; rw [e] at this; cases this
    · intro b hb
      rcases (memf b).1 hb with hb | rfl
      · exact h.ss b hb.1
      · rw [← hb']; exact ss_compact _
    · refine List.pairwise_append.2 ⟨h.dj.filter _, by simp, fun a ha b hb z hza hzb => ?_⟩
      obtain rfl := List.mem_singleton.1 hb
      obtain ⟨ha1, ha2⟩ := List.mem_filter.1 ha
      rcases (mem z).1 hzb with h1 | ⟨o, h1, h2, h3⟩
      · have : hits a m = true := hits_iff.2 ⟨z, hza, h1⟩
        rw [this] at ha2; cases ha2
      · obtain rfl := dj_eq h.dj ha1 h1 hza h3
        rw [h2] at ha2; cases ha2
    · intro z
      constructor
      · rintro ⟨b, hb, hz⟩
        rcases (memf b).1 hb with hb | rfl
        · obtain ⟨m', h1, h2⟩ := (h.cov z).1 ⟨b, hb.1, hz⟩
          exact ⟨m', List.mem_append_left _ h1, h2⟩
        · rcases (mem z).1 hz with h1 | ⟨o, h1, h2, h3⟩
          · exact ⟨m, by simp, h1⟩
          · obtain ⟨m', h1, h2⟩ := (h.cov z).1 ⟨o, h1, h3⟩
            exact ⟨m', List.mem_append_left _ h1, h2⟩
      · rintro ⟨m', hm', hz⟩
        rcases List.mem_append.1 hm' with hm' | hm'
        · obtain ⟨b, hb, hzb⟩ := (h.cov z).2 ⟨m', hm', hz⟩
          cases hh : hits b m with
          | true => exact ⟨b', (memf _).2 (.inr rfl), (mem z).2 (.inr ⟨b, hb, hh, hzb⟩)⟩
          | false => exact ⟨b, (memf _).2 (.inl ⟨hb, hh⟩), hzb⟩
        · obtain rfl := List.mem_singleton.1 hm'
          exact ⟨b', (memf _).2 (.inr rfl), hin z hz⟩
    · intro m' hm' hne
      rcases List.mem_append.1 hm' with hm' | hm'
      · obtain ⟨b, hb, hzb⟩ := h.inn m' hm' hne
        cases hh : hits b m with
        | true => exact ⟨b', (memf _).2 (.inr rfl), fun z hz => (mem z).2 (.inr ⟨b, hb, hh, hzb z hz⟩)⟩
        | false => exact ⟨b, (memf _).2 (.inl ⟨hb, hh⟩), hzb⟩
      · obtain rfl := List.mem_singleton.1 hm'
        exact ⟨b', (memf _).2 (.inr rfl), hin⟩
    · intro f hf b hb x hx y hy hfx
      have hold := h.con f fun m' hm' => hf m' (List.mem_append_left _ hm')
      have hfm := hf m (by simp)
      rcases (memf b).1 hb with hb | rfl
      · exact hold b hb.1 x hx y hy hfx
      · have up : ∃ w ∈ m, f w := by
          rcases (mem x).1 hx with h1 | ⟨o, h1, h2, h3⟩
          · exact ⟨x, h1, hfx⟩
          · obtain ⟨w, hw1, hw2⟩ := hits_iff.1 h2
            exact ⟨w, hw2, hold o h1 x h3 w hw1 hfx⟩
        obtain ⟨w, hw, hfw⟩ := up
        rcases (mem y).1 hy with h1 | ⟨o, h1, h2, h3⟩
        · exact hfm w hw y h1 hfw
        · obtain ⟨u, hu1, hu2⟩ := hits_iff.1 h2
          exact hold o h1 u hu1 y h3 (hfm w hw u hu2 hfw)
theorem blocks_from (F G B : BL) (h : BInv G B) : BInv (G ++ F) (F.foldl stepB B) := by
  induction F generalizing G B with
  | nil => simpa using h
  | cons m F ih =>
    have := ih (G ++ [m]) (stepB B m) (h.step m)
    simpa using this
theorem blocks_inv (F : BL) : BInv F (blocks F) := by
  have := blocks_from F [] [] BInv.nil
  rwa [List.nil_append] at this
theorem stepB_len (B : BL) (m : List Int) : (stepB B m).length ≤ B.length + 1 := by
  unfold stepB
  by_cases hm : m = []
  · rw [if_pos hm]; omega
  · rw [if_neg hm, List.length_append, List.length_singleton]
    have : ∀ (os : BL) (b : List Int) (rest : BL), (mergeF os b rest).2.length ≤ rest.length + os.length := by
      intro os
      induction os with
      | nil => intro b rest; simp [mergeF]
      | cons o os ih =>
        intro b rest
        rw [mergeF]
        cases hits o b with
        | true => have := ih (b ++ o) rest; simp only [cond_true, List.length_cons]; omega
        | false => have := ih b (rest ++ [o]); simp only [cond_false, List.length_cons, List.length_append, List.length_singleton, List.length_nil] at *; omega
    have := this B m []
    simp only [List.length_nil] at this
    omega
/-! ### marks -/
def mk (M : List Int) (z : Int) : Int := M.getD z.toNat 0
def minL (M : List Int) (m : List Int) : Int := m.foldl (fun l k => min l (mk M k)) 40
def setL (M : List Int) (m : List Int) (l : Int) : List Int := m.foldl (fun M k => M.set k.toNat l) M
def stepM (M : List Int) (m : List Int) : List Int := setL M m (minL M m)
def roundM (F : BL) (M : List Int) : List Int := F.foldl stepM M
def roundsM (F : BL) : Nat → List Int → List Int
  | 0, M => M
  | n + 1, M => roundsM F n (roundM F M)
def in40 (z : Int) : Prop := 0 ≤ z ∧ z < 40
theorem setL_len (m : List Int) (M : List Int) (l : Int) : (setL M m l).length = M.length := by
  induction m generalizing M with
  | nil => rfl
  | cons k m ih => show (setL (M.set k.toNat l) m l).length = _; rw [ih]; simp
theorem setL_mk (m : List Int) (M : List Int) (l z : Int) (hM : M.length = 40) (hm : ∀ k ∈ m, in40 k) (hz : in40 z) : mk (setL M m l) z = if z ∈ m then l else mk M z := by
  induction m generalizing M with
  | nil => rfl
  | cons k m ih =>
    show mk (setL (M.set k.toNat l) m l) z = _
    rw [ih (M.set k.toNat l) (by simpa using hM) (fun x hx => hm x (List.mem_cons_of_mem _ hx))]
    have hk := hm k List.mem_cons_self
    unfold in40 at hk hz
    by_cases h1 : z ∈ m
    · rw [if_pos h1, if_pos (List.mem_cons_of_mem _ h1)]
    · rw [if_neg h1]
      by_cases h2 : z = k
      · subst h2
        rw [if_pos List.mem_cons_self]
        have : z.toNat < M.length := by omega
        simp [mk, List.getD, this]
      · rw [if_neg (by simp [h1, h2])]
        have : k.toNat ≠ z.toNat := by omega
        simp [mk, List.getD, List.getElem?_set_ne this]
theorem minL_from (M : List Int) (m : List Int) (a : Int) : m.foldl (fun l k => min l (mk M k)) a ≤ a ∧ (∀ k ∈ m, m.foldl (fun l k => min l (mk M k)) a ≤ mk M k) ∧ (m.foldl (fun l k => min l (mk M k)) a = a ∨ ∃ k ∈ m, m.foldl (fun l k => min l (mk M k)) a = mk M k) := by
  induction m generalizing a with
  | nil => exact ⟨Int.le_refl _, by simp, .inl rfl⟩
  | cons k m ih =>
    obtain ⟨h1, h2, h3⟩ := ih (min a (mk M k))
    simp only [List.foldl_cons]
    refine ⟨by omega, fun x hx => ?_, ?_⟩
    · rcases List.mem_cons.1 hx with rfl | hx
      · omega
      · exact h2 x hx
    · rcases h3 with h3 | ⟨x, hx, h3⟩
      · by_cases h : a ≤ mk M k
        · left; omega
        · right; exact ⟨k, List.mem_cons_self, by omega⟩
      · exact .inr ⟨x, List.mem_cons_of_mem _ hx, h3⟩
structure MI (B : BL) (M : List Int) : Prop where
  len : M.length = 40
  ok : ∀ b ∈ B, ∀ z ∈ b, mk M z ∈ b ∧ mk M z ≤ z
def gd (B : BL) (M : List Int) (z : Int) : Prop := ∀ b ∈ B, z ∈ b → ∀ w ∈ b, mk M z ≤ w
/-- what a fact's nulls are to the blocks -/
structure FB (B : BL) (m : List Int) : Prop where
  rng : ∀ k ∈ m, in40 k
  one : m ≠ [] → ∃ b ∈ B, ∀ z ∈ m, z ∈ b
theorem MI.step {B : BL} {M m : List Int} (h : MI B M) (hd : B.Pairwise Dj) (hB : ∀ b ∈ B, ∀ z ∈ b, in40 z) (hm : FB B m) :
    MI B (stepM M m) ∧ (∀ z, in40 z → gd B M z → gd B (stepM M m) z) ∧ (∀ x ∈ m, gd B M x → ∀ y ∈ m, gd B (stepM M m) y) := by
  have hg := minL_from M m 40
  have hset := fun z hz => setL_mk m M (minL M m) z h.len hm.rng hz
  refine ⟨⟨by rw [stepM, setL_len]; exact h.len, fun b hb z hz => ?_⟩, fun z hz hgz b hb hzb w hw => ?_, fun x hx hgx y hy b hb hyb w hw => ?_⟩
  · have h0 := h.ok b hb z hz
    rw [stepM, hset z (hB b hb z hz)]
    by_cases h1 : z ∈ m
    · rw [if_pos h1]
      have hne : m ≠ [] := fun e => by rw [e] at h1; cases h1
      obtain ⟨b2, hb2, h2⟩ := hm.one hne
      obtain rfl := dj_eq hd hb hb2 hz (h2 z h1)
      have hz1 := hg.2.1 z h1
      refine ⟨?_, by unfold minL; omega⟩
      rcases hg.2.2 with h3 | ⟨k, hk, h3⟩
      · have := hB b hb _ h0.1
        unfold in40 at this
        omega
      · show minL M m ∈ b
        rw [minL, h3]
        exact (h.ok b hb k (h2 k hk)).1
    · rw [if_neg h1]; exact h0
  · rw [stepM, hset z hz]
    by_cases h1 : z ∈ m
    · rw [if_pos h1]
      have := hg.2.1 z h1
      have := hgz b hb hzb w hw
      unfold minL; omega
    · rw [if_neg h1]; exact hgz b hb hzb w hw
  · rw [stepM, hset y (hB b hb y hyb), if_pos hy]
    have hne : m ≠ [] := fun e => by rw [e] at hx; cases hx
    obtain ⟨b2, hb2, h2⟩ := hm.one hne
    obtain rfl := dj_eq hd hb hb2 hyb (h2 y hy)
    have := hg.2.1 x hx
    have := hgx b hb (h2 x hx) w hw
    unfold minL; omega
theorem MI.round {B F : BL} {M : List Int} (h : MI B M) (hd : B.Pairwise Dj) (hB : ∀ b ∈ B, ∀ z ∈ b, in40 z) (hF : ∀ m ∈ F, FB B m) :
    MI B (roundM F M) ∧ (∀ z, in40 z → gd B M z → gd B (roundM F M) z) ∧ (∀ m ∈ F, ∀ x ∈ m, gd B M x → ∀ y ∈ m, gd B (roundM F M) y) := by
  induction F generalizing M with
  | nil => exact ⟨h, fun _ _ hg => hg, by simp⟩
  | cons m F ih =>
    obtain ⟨h1, h2, h3⟩ := h.step hd hB (hF m List.mem_cons_self)
    obtain ⟨i1, i2, i3⟩ := ih h1 (fun m' hm' => hF m' (List.mem_cons_of_mem _ hm'))
    refine ⟨i1, fun z hz hg => i2 z hz (h2 z hz hg), fun m' hm' x hx hg y hy => ?_⟩
    rcases List.mem_cons.1 hm' with rfl | hm'
    · exact i2 y ((hF m' List.mem_cons_self).rng y hy) (h3 x hx hg y hy)
    · exact i3 m' hm' x hx (h2 x ((hF m' (List.mem_cons_of_mem _ hm')).rng x hx) hg) y hy
open Classical in
noncomputable def cnt (V : List Int) (p : Int → Prop) : Nat := (V.filter fun z => decide (p z)).length
open Classical in
theorem cnt_mono (V : List Int) (p q : Int → Prop) (h : ∀ z ∈ V, p z → q z) : cnt V p ≤ cnt V q ∧ ((∃ z ∈ V, q z ∧ ¬ p z) → cnt V p < cnt V q) ∧ cnt V p ≤ V.length ∧ (V.length ≤ cnt V p → ∀ z ∈ V, p z) := by
  unfold cnt
  induction V with
  | nil => simp
  | cons v V ih =>
    obtain ⟨h1, h2, h3, h4⟩ := ih fun z hz => h z (List.mem_cons_of_mem _ hz)
    have hv := h v List.mem_cons_self
    simp only [List.filter_cons, decide_eq_true_eq]
    by_cases hp : p v
    · rw [if_pos hp, if_pos (hv hp)]
      simp only [List.length_cons]
      refine ⟨by omega, ?_, by omega, fun hl z hz => ?_⟩
      · rintro ⟨z, hz, hq, hnp⟩
        rcases List.mem_cons.1 hz with rfl | hz
        · exact absurd hp hnp
        · have := h2 ⟨z, hz, hq, hnp⟩; omega
      · rcases List.mem_cons.1 hz with rfl | hz
        · exact hp
        · exact h4 (by omega) z hz
    · rw [if_neg hp]
      by_cases hq : q v
      · rw [if_pos hq]
        simp only [List.length_cons]
        exact ⟨by omega, fun _ => by omega, by omega, fun hl => by omega⟩
      · rw [if_neg hq]
        refine ⟨h1, ?_, by simp only [List.length_cons]; omega, fun hl => by simp only [List.length_cons] at hl; omega⟩
        rintro ⟨z, hz, hq', hnp⟩
        rcases List.mem_cons.1 hz with rfl | hz
        · exact absurd hq' hq
        · exact h2 ⟨z, hz, hq', hnp⟩
/-- the least of a block is good from the start -/
theorem MI.head {B : BL} {M : List Int} (h : MI B M) (hd : B.Pairwise Dj) (hs : ∀ b ∈ B, SS b) {b : List Int} (hb : b ∈ B) {x : Int} {b0 : List Int} (e : b = x :: b0) : gd B M x ∧ (∀ w ∈ b, x ≤ w) := by
  have hx : x ∈ b := by rw [e]; exact List.mem_cons_self
  have hle : ∀ w ∈ b, x ≤ w := by
    intro w hw
    rw [e] at hw
    rcases List.mem_cons.1 hw with rfl | hw
    · exact Int.le_refl _
    · have := hs b hb
      rw [e] at this
      exact Int.le_of_lt ((List.pairwise_cons.1 this).1 w hw)
  refine ⟨fun b' hb' hxb' w hw => ?_, hle⟩
  obtain rfl := dj_eq hd hb hb' hx hxb'
  have := (h.ok b hb x hx).2
  have := hle w hw
  omega
theorem rounds_gd {F : BL} (B : BL) (hI : BInv F B) (hB : ∀ b ∈ B, ∀ z ∈ b, in40 z) (hF : ∀ m ∈ F, FB B m) (V : List Int) (hV : ∀ z, z ∈ V ↔ ∃ b ∈ B, z ∈ b) :
    ∀ (n : Nat) (M : List Int) (c : Nat), MI B M → ((∀ z ∈ V, gd B M z) ∨ c ≤ cnt V (gd B M)) → MI B (roundsM F n M) ∧ ((∀ z ∈ V, gd B (roundsM F n M) z) ∨ c + n ≤ cnt V (gd B (roundsM F n M))) := by
  have hV40 : ∀ z ∈ V, in40 z := fun z hz => by obtain ⟨b, hb, hzb⟩ := (hV z).1 hz; exact hB b hb z hzb
  intro n
  induction n with
  | zero => intro M c h hc; exact ⟨h, hc⟩
  | succ n ih =>
    intro M c h hc
    obtain ⟨h1, h2, h3⟩ := h.round hI.dj hB hF
    have := ih (roundM F M) (c + 1) h1 ?_
    · show MI B (roundsM F n (roundM F M)) ∧ _
      refine ⟨this.1, ?_⟩
      rcases this.2 with h' | h'
      · exact .inl h'
      · right; show c + (n + 1) ≤ cnt V (gd B (roundsM F n (roundM F M))); omega
    · by_cases hall : ∀ z ∈ V, gd B M z
      · exact .inl fun z hz => h2 z (hV40 z hz) (hall z hz)
      · right
        have hc : c ≤ cnt V (gd B M) := by
          rcases hc with hc | hc
          · exact absurd hc hall
          · exact hc
        have hm := cnt_mono V (gd B M) (gd B (roundM F M)) fun z hz => h2 z (hV40 z hz)
        have : ∃ z ∈ V, gd B (roundM F M) z ∧ ¬ gd B M z := by
          apply Classical.byContradiction
          intro hno
          apply hall
          intro y hy
          obtain ⟨b, hb, hyb⟩ := (hV y).1 hy
          cases e : b with
          | nil => exact absurd e (hI.ne b hb)
          | cons x b0 =>
            have hx : x ∈ b := by rw [e]; exact List.mem_cons_self
            refine hI.con (gd B M) (fun m hm' u hu w hw hgu => ?_) b hb x hx y hyb (h.head hI.dj hI.ss hb e).1
            apply Classical.byContradiction
            intro hnw
            exact hno ⟨w, (hV w).2 ((hI.cov w).2 ⟨m, hm', hw⟩), h3 m hm' u hu hgu w hw, hnw⟩
        have := hm.2.1 this
        omega
theorem rounds_all {F : BL} (B : BL) (hI : BInv F B) (hB : ∀ b ∈ B, ∀ z ∈ b, in40 z) (hF : ∀ m ∈ F, FB B m) (V : List Int) (hV : ∀ z, z ∈ V ↔ ∃ b ∈ B, z ∈ b) (M : List Int) (h : MI B M) :
    MI B (roundsM F V.length M) ∧ ∀ z ∈ V, gd B (roundsM F V.length M) z := by
  obtain ⟨h1, h2⟩ := rounds_gd B hI hB hF V hV V.length M 0 h (.inr (Nat.zero_le _))
  refine ⟨h1, ?_⟩
  rcases h2 with h2 | h2
  · exact h2
  · exact (cnt_mono V (gd B (roundsM F V.length M)) (gd B (roundsM F V.length M)) fun _ _ hp => hp).2.2.2 (by omega)
def gath (V M : List Int) (i : Int) : List Int := V.filter fun k => decide (mk M k = i)
def gather (V M : List Int) : BL := (V.map (gath V M)).filter fun b => decide (b ≠ [])
theorem gath_eq {F B : BL} (hI : BInv F B) {V M : List Int} (hV : ∀ z, z ∈ V ↔ ∃ b ∈ B, z ∈ b) (hS : SS V) (h : MI B M) (hg : ∀ z ∈ V, gd B M z) {b : List Int} (hb : b ∈ B) {i : Int} (hi : i ∈ b) (hl : ∀ w ∈ b, i ≤ w) : gath V M i = b := by
  refine ss_eq (hS.filter _) (hI.ss b hb) fun k => ?_
  simp only [gath, List.mem_filter, decide_eq_true_eq]
  constructor
  · rintro ⟨hk, e⟩
    obtain ⟨b2, hb2, hkb⟩ := (hV k).1 hk
    have := (h.ok b2 hb2 k hkb).1
    rw [e] at this
    obtain rfl := dj_eq hI.dj hb hb2 hi this
    exact hkb
  · intro hk
    have hkV := (hV k).2 ⟨b, hb, hk⟩
    refine ⟨hkV, ?_⟩
    have h1 := hg k hkV b hb hk i hi
    have h2 := hl _ (h.ok b hb k hk).1
    omega
theorem gather_mem {F B : BL} (hI : BInv F B) {V M : List Int} (hV : ∀ z, z ∈ V ↔ ∃ b ∈ B, z ∈ b) (hS : SS V) (h : MI B M) (hg : ∀ z ∈ V, gd B M z) (b : List Int) : b ∈ gather V M ↔ b ∈ B := by
  simp only [gather, List.mem_filter, List.mem_map, decide_eq_true_eq]
  constructor
  · rintro ⟨⟨i, hi, rfl⟩, hne⟩
    cases e : gath V M i with
    | nil => exact absurd e hne
    | cons k r =>
      have hk : k ∈ gath V M i := by rw [e]; exact List.mem_cons_self
      rw [← e]
      simp only [gath, List.mem_filter, decide_eq_true_eq] at hk
      obtain ⟨b, hb, hkb⟩ := (hV k).1 hk.1
      have h1 := (h.ok b hb k hkb).1
      rw [hk.2] at h1
      have := gath_eq hI hV hS h hg hb h1 (fun w hw => by have := hg k hk.1 b hb hkb w hw; omega)
      rw [this]
      exact hb
  · intro hb
    cases e : b with
    | nil => exact absurd e (hI.ne b hb)
    | cons x b0 =>
      have hx : x ∈ b := by rw [e]; exact List.mem_cons_self
      rw [← e]
      have := gath_eq hI hV hS h hg hb hx (h.head hI.dj hI.ss hb e).2
      exact ⟨⟨x, (hV x).2 ⟨b, hb, hx⟩, this⟩, hI.ne b hb⟩
def mostL (L : BL) : Int := L.foldl (fun n b => max n (b.length : Int)) 0
theorem mostL_from (L : BL) (a : Int) : a ≤ L.foldl (fun n b => max n (b.length : Int)) a ∧ (∀ b ∈ L, (b.length : Int) ≤ L.foldl (fun n b => max n (b.length : Int)) a) ∧ (L.foldl (fun n b => max n (b.length : Int)) a = a ∨ ∃ b ∈ L, L.foldl (fun n b => max n (b.length : Int)) a = b.length) := by
  induction L generalizing a with
  | nil => exact ⟨Int.le_refl _, by simp, .inl rfl⟩
  | cons k m ih =>
    obtain ⟨h1, h2, h3⟩ := ih (max a k.length)
    simp only [List.foldl_cons]
    refine ⟨by omega, fun x hx => ?_, ?_⟩
    · rcases List.mem_cons.1 hx with rfl | hx
      · omega
      · exact h2 x hx
    · rcases h3 with h3 | ⟨x, hx, h3⟩
      · by_cases h : a ≤ k.length
        · right; exact ⟨k, List.mem_cons_self, by omega⟩
        · left; omega
      · exact .inr ⟨x, List.mem_cons_of_mem _ hx, h3⟩
theorem mostL_eq {L L' : BL} (h : ∀ b, b ∈ L ↔ b ∈ L') : mostL L = mostL L' := by
  obtain ⟨a1, a2, a3⟩ := mostL_from L 0
  obtain ⟨b1, b2, b3⟩ := mostL_from L' 0
  unfold mostL
  have h1 : L.foldl (fun n b => max n (b.length : Int)) 0 ≤ L'.foldl (fun n b => max n (b.length : Int)) 0 := by
    rcases a3 with e | ⟨b, hb, e⟩
    · omega
    · have := b2 b ((h b).1 hb); omega
  have h2 : L'.foldl (fun n b => max n (b.length : Int)) 0 ≤ L.foldl (fun n b => max n (b.length : Int)) 0 := by
    rcases b3 with e | ⟨b, hb, e⟩
    · omega
    · have := a2 b ((h b).2 hb); omega
  omega
theorem ss_from : ∀ (l : List Int) (a : Int), SS l → (∀ z ∈ l, a ≤ z ∧ z < 40) → a ≤ 40 → (l.length : Int) ≤ 40 - a
  | [], a, _, _, h => by simp; omega
  | x :: l, a, hs, h, _ => by
    have h' := List.pairwise_cons.1 hs
    have hx := h x List.mem_cons_self
    have := ss_from l (x + 1) h'.2 (fun z hz => ⟨by have := h'.1 z hz; omega, (h z (List.mem_cons_of_mem _ hz)).2⟩) (by omega)
    simp only [List.length_cons]
    omega
theorem ss_short {l : List Int} (hs : SS l) (h : ∀ z ∈ l, in40 z) : l.length ≤ 40 := by
  have := ss_from l 0 hs h (by omega)
  omega
def M0 : List Int := (List.range 40).map fun k : Nat => (k : Int)
theorem mk_M0 {z : Int} (h : in40 z) : mk M0 z = z := by
  unfold in40 at h
  have h2 : z.toNat < 40 := by omega
  have h3 : ((z.toNat : Nat) : Int) = z := by omega
  simp only [mk, M0, List.getD, List.getElem?_map]
  rw [List.getElem?_range h2]
  exact h3
theorem MI.start {B : BL} (hB : ∀ b ∈ B, ∀ z ∈ b, in40 z) : MI B M0 :=
  ⟨by simp [M0], fun b hb z hz => by rw [mk_M0 (hB b hb z hz)]; exact ⟨hz, Int.le_refl _⟩⟩
/-- the law of the blocks -/
theorem blocks_law (F : BL) (hF : ∀ m ∈ F, ∀ z ∈ m, in40 z) (V : List Int) (hS : SS V) (hV : ∀ z, z ∈ V ↔ ∃ m ∈ F, z ∈ m) (b : List Int) : b ∈ gather V (roundsM F V.length M0) ↔ b ∈ blocks F := by
  have hI := blocks_inv F
  have hB : ∀ b ∈ blocks F, ∀ z ∈ b, in40 z := fun b hb z hz => by
    obtain ⟨m, hm, hz⟩ := (hI.cov z).1 ⟨b, hb, hz⟩
    exact hF m hm z hz
  have hV' : ∀ z, z ∈ V ↔ ∃ b ∈ blocks F, z ∈ b := fun z => by rw [hV z, hI.cov z]
  obtain ⟨h1, h2⟩ := rounds_all (blocks F) hI hB (fun m hm => ⟨hF m hm, hI.inn m hm⟩) V hV' M0 (MI.start hB)
  exact gather_mem hI hV' hS h1 h2 b
end Ovi

/-! Srf -/
namespace Ovi
open Go Go.Proofs Go.RowKit Go.Sort Go.Lib

/-! ### slices.SortFunc on rows of integer lists, under slices.Compare -/
def cmpL : List Int → List Int → Int
  | [], [] => 0
  | [], _ :: _ => -1
  | _ :: _, [] => 1
  | x :: xs, y :: ys => if x < y then -1 else if x > y then 1 else cmpL xs ys
def ltL (x y : List Int) : Bool := decide (cmpL x y < 0)
theorem ltL_iff : ∀ (x y : List Int), ltL x y = true ↔ x < y
  | [], [] => by simp [ltL, cmpL]
  | [], y :: ys => by simp [ltL, cmpL]
  | x :: xs, [] => by simp [ltL, cmpL]
  | x :: xs, y :: ys => by
    rw [List.cons_lt_cons_iff, ← ltL_iff xs ys]
    unfold ltL
    rw [show cmpL (x :: xs) (y :: ys) = if x < y then -1 else if x > y then 1 else cmpL xs ys from rfl]
    simp only [decide_eq_true_eq]
    by_cases h1 : x < y
    · simp [h1]
    · by_cases h2 : x > y
      · rw [if_neg h1, if_pos h2]
        constructor
        · intro h; omega
        · rintro (h | ⟨h, _⟩) <;> omega
      · have h3 : x = y := by omega
        rw [if_neg h1, if_neg h2]
        constructor
        · intro h; exact .inr ⟨h3, h⟩
        · rintro (h | ⟨_, h⟩)
          · omega
          · exact h
theorem ltL_f (x y : List Int) : ltL x y = false ↔ y ≤ x := by
  rw [← List.not_lt, ← ltL_iff, Bool.not_eq_true]
theorem swoL : SWO ltL where
  irrefl x := by rw [ltL_f]; exact List.le_refl _
  trans x y z h1 h2 := by rw [ltL_iff] at *; exact List.lt_trans h1 h2
  ntrans x y z h1 h2 := by rw [ltL_f] at *; exact List.le_trans h2 h1
theorem antiL (x y : List Int) (h1 : ltL x y = false) (h2 : ltL y x = false) : x = y := by
  rw [ltL_f] at h1 h2
  exact List.le_antisymm h2 h1
def sortLists (l : BL) : BL := l.mergeSort fun x y => !ltL y x
theorem mem_sortLists (l : BL) (b : List Int) : b ∈ sortLists l ↔ b ∈ l := by simp [sortLists]
theorem sortLists_len (l : BL) : (sortLists l).length = l.length := by simp [sortLists]
theorem srt_unique {l l' : BL} (hp : l'.Perm l) (hs : l'.Pairwise fun x y => ltL y x = false) : l' = sortLists l := by
  refine List.Perm.eq_of_pairwise (le := fun x y => (!ltL y x) = true) ?_ ?_ ?_ (hp.trans (List.mergeSort_perm _ _).symm)
  · intro a b _ _ h1 h2
    simp only [Bool.not_eq_true'] at h1 h2
    exact antiL a b h2 h1
  · exact hs.imp fun h => by rw [h]; rfl
  · refine List.pairwise_mergeSort ?_ ?_ _
    · intro a b c h1 h2
      simp only [Bool.not_eq_true'] at h1 h2 ⊢
      exact swoL.ntrans c b a h2 h1
    · intro a b
      cases h : ltL b a with
      | false => simp
      | true =>
        have : ltL a b = false := by
          rw [ltL_iff] at h
          rw [ltL_f]
          exact List.le_of_lt h
        simp [this]
def LL (l : BL) : Rows := l.map fun zs => [.list 1 (I1 zs)]
theorem LL_len (l : BL) : (LL l).length = l.length := by simp [LL]
theorem LL_get (l : BL) (i : Nat) : (LL l)[i]? = (l[i]?).map fun zs => [.list 1 (I1 zs)] := by simp [LL]
theorem LL_at {l : BL} {i : Nat} {zs : List Int} (h : l[i]? = some zs) : cellD (LL l) i 0 = some (.list 1 (I1 zs)) := by simp [cellD, LL_get, h]
theorem LL_cell {l : BL} {i c : Nat} {x : D} (h : cellD (LL l) i c = some x) : c = 0 ∧ ∃ zs, l[i]? = some zs ∧ x = .list 1 (I1 zs) := by
  obtain ⟨row, hr, hc⟩ := cellD_lt h
  rw [LL_get] at hr
  obtain ⟨zs, hz, rfl⟩ := Option.map_eq_some_iff.1 hr
  cases c with
  | zero => simp at hc; exact ⟨rfl, zs, hz, hc.symm⟩
  | succ c => simp at hc
theorem LL_rows (l : BL) : ∀ (i : Nat) (x : List D), (LL l)[i]? = some x → x.length = 1 := by
  intro i x h
  rw [LL_get] at h
  obtain ⟨z, _, rfl⟩ := Option.map_eq_some_iff.1 h
  rfl
def lists : Rows → Option BL
  | [] => some []
  | [.list 1 xs] :: r => (ints xs).bind fun zs => (lists r).bind fun l => some (zs :: l)
  | _ => none
theorem lists_LL (l : BL) : lists (LL l) = some l := by
  induction l with
  | nil => rfl
  | cons zs l ih =>
    show ((ints (I1 zs)).bind fun zs => (lists (LL l)).bind fun l => some (zs :: l)) = _
    rw [ih, ints_I1]
    rfl
theorem lists_some : ∀ {xs : Rows} {l : BL}, lists xs = some l → xs = LL l
  | [], l, h => by cases h; rfl
  | [.list 1 xs] :: r, l, h => by
    unfold lists at h
    obtain ⟨zs, h1, h⟩ := Option.bind_eq_some_iff.1 h
    obtain ⟨l', h2, h⟩ := Option.bind_eq_some_iff.1 h
    cases h
    rw [lists_some h2, ints_some h1]
    rfl
def sortFArg (g : Nat) : Args → Option (Nat × BL)
  | [.var 0 0, .d (.int .i64 e), .d (.list 1 xs), .d (.fn g' [])] => cond (Nat.beq g' g) ((lists xs).bind fun l => cond (Nat.ble l.length 1099511627776 && l.all fun z => Nat.ble z.length 1099511627776) (some (e.toNat, l)) none) none
  | _ => none
def sortFP (g : Nat) (args : Args) : Option Res := (sortFArg g args).bind fun p => some [(false, [.row p.1 1 (LL (sortLists p.2))])]
theorem sortFArg_isRaw {g : Nat} {args : Args} {p : Nat × BL} (h : sortFArg g args = some p) : ∃ e xs, args = [.var 0 0, .d (.int .i64 e), .d (.list 1 xs), .d (.fn g [])] := by
  unfold sortFArg at h
  split at h
  · rename_i e xs g'
    cases hb : Nat.beq g' g with
    | false => rw [hb] at h; cases h
    | true => exact ⟨e, xs, by rw [Nat.eq_of_beq_eq_true hb]⟩
  · cases h
theorem sortFArg_some {g : Nat} {k : IntKind} {e : Int} {sz : Nat} {xs : Rows} {rest : Args} {p : Nat × BL} (h : sortFArg g (rawTag :: .d (.int k e) :: .d (.list sz xs) :: rest) = some p) : sz = 1 ∧ rest = [.d (.fn g [])] ∧ xs = LL p.2 ∧ p.1 = e.toNat ∧ p.2.length ≤ 1099511627776 ∧ ∀ z ∈ p.2, z.length ≤ 1099511627776 := by
  obtain ⟨e1, xs1, heq⟩ := sortFArg_isRaw h
  simp only [rawTag, List.cons.injEq, AV.d.injEq, D.int.injEq, D.list.injEq, true_and] at heq
  obtain ⟨⟨rfl, rfl⟩, ⟨rfl, rfl⟩, rfl⟩ := heq
  simp only [sortFArg, rawTag, show Nat.beq g g = true from Nat.beq_refl g, cond_true] at h
  obtain ⟨l, hl, h⟩ := Option.bind_eq_some_iff.1 h
  cases hb : (Nat.ble l.length 1099511627776 && l.all fun z => Nat.ble z.length 1099511627776) with
  | false => rw [hb] at h; cases h
  | true =>
    rw [hb] at h
    cases h
    rw [Bool.and_eq_true, List.all_eq_true] at hb
    exact ⟨rfl, rfl, lists_some hl, rfl, Nat.le_of_ble_eq_true hb.1, fun z hz => Nat.le_of_ble_eq_true (hb.2 z hz)⟩
/-- a list of integers, laid in the blocks of S -/
def RI (w : World) (S : Nat → Prop) (u : Value) (zs : List Int) : Prop := ∃ A cap, u = .slice A zs.length cap ∧ zs.length ≤ cap ∧ ∀ (i : Nat) z, zs[i]? = some z → ∃ ad, A = some ad ∧ S ad.block ∧ w.cell? (ad.add i) = some (.int .i64 z)
section
variable {P : Program} {G : Gd} {w w' : World} {S T : Nat → Prop} {u : Value} {zs : List Int}
theorem RD.ri (h : RD w S T u (.list 1 (I1 zs))) : RI w S u zs := by
  generalize hxs : I1 zs = XS at h
  cases h with
  | list A cap sz xs g h1 h3 h4 h5 h6 =>
    subst hxs
    rw [I1_len] at h1
    refine ⟨A, cap, by rw [I1_len], h1, fun i z hz => ?_⟩
    obtain ⟨ad, e1, e2, e3⟩ := h4 i 0 _ (I1_at hz)
    have hr := h5 i 0 _ (I1_at hz)
    refine ⟨ad, e1, e2, ?_⟩
    rw [Nat.mul_one, Nat.add_zero] at e3
    rw [e3]
    generalize g i 0 = G at hr
    cases hr
    rfl
theorem RI.rd (h : RI w S u zs) : RD w S T u (.list 1 (I1 zs)) := by
  obtain ⟨A, cap, rfl, h1, h2⟩ := h
  have := RD.list (w := w) (S := S) (T := T) A cap 1 (I1 zs) (fun i _ => .int .i64 (zs.getD i 0)) (by rw [I1_len]; exact h1) (I1_rows zs) (fun i c x hx => by
    obtain ⟨rfl, z, hz, rfl⟩ := I1_cell hx
    obtain ⟨ad, e1, e2, e3⟩ := h2 i z hz
    refine ⟨ad, e1, e2, ?_⟩
    rw [Nat.mul_one, Nat.add_zero, e3, List.getD_eq_getElem?_getD, hz]
    rfl) (fun i c x hx => by
    obtain ⟨rfl, z, hz, rfl⟩ := I1_cell hx
    rw [List.getD_eq_getElem?_getD, hz]
    exact .int _ _) (fun i c x hx => by
    obtain ⟨rfl, z, hz, rfl⟩ := I1_cell hx
    rfl)
  rw [I1_len] at this
  exact this
theorem RI.stab (h : RI w S u zs) (hs : Stab S w w') : RI w' S u zs := by
  obtain ⟨A, cap, rfl, h1, h2⟩ := h
  refine ⟨A, cap, rfl, h1, fun i z hz => ?_⟩
  obtain ⟨ad, e1, e2, e3⟩ := h2 i z hz
  exact ⟨ad, e1, e2, by rw [← e3]; exact hs.cell (by rw [add_block]; exact e2)⟩
structure HdL (w : World) (S : Nat → Prop) where
  v : Value
  l : List Int
  h : RI w S v l
  b : l.length ≤ 1099511627776
def encH (h : HdL w S) : Value := h.v
def lstH (h : HdL w S) : List Int := h.l
instance : Inhabited (HdL w S) := ⟨⟨.slice none 0 0, [], ⟨none, 0, rfl, Nat.le_refl _, fun i z h => by simp at h⟩, by simp⟩⟩
def cmpH (x y : HdL w S) : Int := cmpL (lstH x) (lstH y)
theorem swoH : SWO (ltOf (cmpH (w := w) (S := S))) := ⟨fun x => swoL.irrefl _, fun x y z h1 h2 => swoL.trans _ _ _ h1 h2, fun x y z h1 h2 => swoL.ntrans _ _ _ h1 h2⟩
end
/-- what is asked of the comparison -/
def CmpC (P : Program) (g : FuncId) : Prop := ∀ (w : World) (S : Nat → Prop) (u v : Value) (xs ys : List Int), RI w S u xs → RI w S v ys → xs.length ≤ 1099511627776 → ys.length ≤ 1099511627776 →
  Calls P g #[u, v] w fun e w' => e = .returned (.int .i64 (cmpL xs ys)) ∧ ∃ q os, w' = grow (w.drewN q) os
/-- what the shelf promises of slices.SortFunc at rows of lists -/
structure SortFC (P : Program) (f g : FuncId) : Prop where
  known : Known P f
  run : ∀ (w : World) (S : Nat → Prop) (blk cap : Nat) (d : Array (HdL w S)), (∀ k, S k → k < w.heap.size) → ¬ S blk → Holds encH w blk 0 d → blk < w.heap.size → d.size < 4611686018427387904 →
    Calls P f #[.slice (some ⟨blk, 0, none⟩) d.size cap, .func (.func g) #[] #[]] w fun e w' => e = .returned (.tuple #[]) ∧ ∃ (d' : Array (HdL w S)) (n : Nat) (os : Array Obj), PermIn 0 d.size d d' ∧ SortedIn (ltOf cmpH) 0 d.size d' ∧ w' = sortWorld encH w blk 0 n d' os
  nil : ∀ (A : Option Addr) (w : World), Calls P f #[.slice A 0 0, .func (.func g) #[] #[]] w fun e w' => e = .returned (.tuple #[]) ∧ Below w.heap.size w w'
section
variable {P : Program} {G : Gd} {w : World} {S T : Nat → Prop} {b e cap : Nat} {α : Type} [Inhabited α] {enc : α → Value}
theorem heapS {n : Nat} {os : Array Obj} {cur : Array Value} {fr : Nat × Nat} (d : Array α) (hb : w.heap[b]? = some (.cells cur e fr)) :
    (sortWorld enc w b 0 n d os).heap[b]? = some (.cells (putCells enc 0 d cur) e fr) := by
  have hg : b < w.heap.size := (Array.getElem?_eq_some_iff.1 hb).1
  unfold sortWorld
  rw [heap_grow_old _ _ (by simpa using hg)]
  simp [putRow, mapBlock, Sort.ahead, Array.getElem?_modify, hb, onCells]
theorem heapO {n : Nat} {os : Array Obj} (d : Array α) {k : Nat} (hk : k < w.heap.size) (hne : k ≠ b) : (sortWorld enc w b 0 n d os).heap[k]? = w.heap[k]? := by
  unfold sortWorld
  rw [heap_grow_old _ _ (by simpa using hk)]
  simp [putRow, mapBlock, Sort.ahead, Array.getElem?_modify, Ne.symm hne]
theorem stabS {n : Nat} {os : Array Obj} (d : Array α) (hS : ∀ k, S k → k < w.heap.size) (hb : ¬ S b) : Stab S w (sortWorld enc w b 0 n d os) :=
  fun k hk => heapO d (hS k hk) fun h => hb (h ▸ hk)
end
theorem mkH {w : World} {S : Nat → Prop} {cur : Array Value} : ∀ (l : BL) (o : Nat), (∀ i zs, l[i]? = some zs → ∃ v, cur[o + i]? = some v ∧ RI w S v zs ∧ zs.length ≤ 1099511627776) → ∃ d : List (HdL w S), d.map lstH = l ∧ ∀ j x, d[j]? = some x → cur[o + j]? = some (encH x)
  | [], o, _ => ⟨[], rfl, fun j x h => by simp at h⟩
  | z :: l, o, h => by
    obtain ⟨d, h1, h2⟩ := mkH l (o + 1) fun i zs hz => by
      have := h (i + 1) zs (by simpa using hz)
      rwa [show o + (i + 1) = o + 1 + i by omega] at this
    obtain ⟨v, hv, hr, hzb⟩ := h 0 z rfl
    refine ⟨(⟨v, z, hr, hzb⟩ : HdL w S) :: d, by rw [List.map_cons, h1]; rfl, fun j x hx => ?_⟩
    cases j with
    | zero => cases hx; exact hv
    | succ j => rw [show o + (j + 1) = o + 1 + j by omega]; exact h2 j x (by simpa using hx)
theorem plain_raw' {P : Program} {G : Gd} {f : FuncId} {rest : Args} {r : Res} : PlainC P G f (.var 0 0 :: rest) r := by
  intro w S T vs hS hT hl
  obtain ⟨u, hu, ⟨cs, h⟩, _⟩ := hl.2 0 _ rfl
  cases h
theorem sortF_sound {P : Program} {G : Gd} {fs g : FuncId} (h : SortFC P fs g) {args : Args} {r : Res} (hr : sortFP g args = some r) : PlainC P G fs args r ∧ ∀ k e sz xs rest, args = rawTag :: .d (.int k e) :: .d (.list sz xs) :: rest → ∀ e' : Nat, e = e' → RawC P fs e' sz xs rest r := by
  obtain ⟨⟨e0, l⟩, hra, hr⟩ := Option.bind_eq_some_iff.1 hr
  cases hr
  refine ⟨?_, fun k e sz xs rest hargs e' he => ?_⟩
  · obtain ⟨_, _, rfl⟩ := sortFArg_isRaw hra
    exact plain_raw'
  · subst hargs
    obtain ⟨rfl, rfl, rfl, h4, hlen, hlz⟩ := sortFArg_some hra
    simp only at h4 hlen hlz
    subst he h4
    refine Or.inl fun w S T mo u vs hS hT hrow hl => ?_
    have hvs : vs = #[.func (.func g) #[] #[]] := by
      obtain ⟨u0, hu0, hrd⟩ := hl.2 0 _ rfl
      have hrd : RD w S T u0 (.fn g []) := hrd
      have h1 : vs.size = 1 := hl.1
      have h2 : u0 = .func (.func g) #[] #[] := by
        generalize hc : ([] : Rows) = CS at hrd
        cases hrd with
        | fn f vs' caps g' k1 k4 k5 =>
          subst hc
          rw [Array.eq_empty_of_size_eq_zero k1]
      subst h2
      apply Array.ext_getElem?
      intro i
      cases i with
      | zero => rw [hu0]; rfl
      | succ i => rw [Array.getElem?_eq_none (by omega), Array.getElem?_eq_none (by simp)]
    subst hvs
    simp only [Int.toNat_natCast]
    have hsl := sortLists_len l
    cases mo with
    | none =>
      obtain ⟨_, ⟨_, A, rfl⟩, hn⟩ := hrow
      have hz : l = [] := by simpa [LL] using hn
      subst hz
      refine (h.nil A w).mono fun ex w' ⟨h1, h2⟩ => ⟨_, h1, h2, fun _ => ⟨by simp [LL, sortLists], rfl, ?_⟩⟩
      refine ⟨fun i x hx => by simp [LL, sortLists] at hx, ⟨by simp [LL, sortLists], A, rfl⟩, by simp [LL, sortLists]⟩
    | some b =>
      obtain ⟨_, ⟨cap, cur, rfl, hc, h1, h2, h3⟩, _, hnS, cur', hc', h5, h6⟩ := hrow
      rw [LL_len] at *
      rw [hc] at hc'
      cases hc'
      have hblk : b < w.heap.size := lt_of_blk hc
      obtain ⟨dl, hd1, hdl⟩ := mkH (w := w) (S := S) (cur := cur) l 0 fun i zs hz => by
        obtain ⟨_, v, hv, hrd⟩ := h6 i 0 _ (LL_at hz)
        rw [Nat.mul_one, Nat.add_zero] at hv
        exact ⟨v, by rw [Nat.zero_add]; exact hv, RD.ri hrd, hlz _ (List.mem_of_getElem? hz)⟩
      obtain ⟨d, rfl⟩ : ∃ d : Array (HdL w S), dl = d.toList := ⟨dl.toArray, rfl⟩
      have hd2 : Holds encH w b 0 d := by
        intro j hj
        rw [getElem!_pos d j hj]
        refine ⟨?_, by simp [World.frozen?, hc]⟩
        simp only [World.cell?, hc, Option.isSome_none, Bool.false_eq_true, if_false]
        exact hdl j _ (by simp [hj])
      have hds : d.size = l.length := by rw [← hd1]; simp
      have hcall := h.run w S b cap d hS hnS hd2 hblk (by omega)
      rw [hds] at hcall
      refine hcall.mono fun ex w' ⟨k1, d', n, os, ⟨p1, _, p3⟩, k3, k4⟩ => ?_
      subst k4
      have hds' : d'.size = l.length := by rw [p1, hds]
      have hext : ∀ (a : Array (HdL w S)) (m : Nat), a.size = m → a.extract 0 m = a := fun a m hm => by subst hm; exact Array.extract_size
      rw [hext d' _ hds', hext d _ hds] at p3
      have hys : d'.toList.map lstH = sortLists l := by
        refine srt_unique (by rw [← hd1]; exact p3.map _) ?_
        rw [List.pairwise_map, List.pairwise_iff_getElem]
        intro i j hi hj hij
        have hi' : i < d'.size := by simpa using hi
        have hj' : j < d'.size := by simpa using hj
        have := k3 i j (Nat.zero_le _) hij (by omega)
        rw [getElem!_pos d' j hj', getElem!_pos d' i hi'] at this
        exact this
      have hnew := heapS (enc := encH) (n := n) (os := os) d' hc
      have hcsz : (putCells encH 0 d' cur).size = cur.size := by simp [putCells]
      have hst := stabS (enc := encH) (n := n) (os := os) d' hS hnS
      refine ⟨_, k1, ⟨cur, _, hc, hcsz, rfl, rfl, rfl, by simp [sortWorld, grow, putRow, mapBlock, Sort.ahead, setBlk], fun k hk => ?_⟩, fun _ => ⟨by rw [LL_len, LL_len, hsl], rfl, LL_rows _, ?_, Nat.zero_le _, hnS, _, hnew, by rw [LL_len, hsl, hcsz]; omega, fun i c x hx => ?_⟩⟩
      · have hk : k < w.heap.size := by simpa using hk
        by_cases hkb : k = b
        · subst hkb
          rw [setBlk_at hblk, hnew]
        · rw [setBlk_ne hkb]
          exact heapO _ hk hkb
      · rw [LL_len, hsl]
        exact ⟨cap, _, rfl, hnew, h1, h2, by rw [hcsz]; omega⟩
      · obtain ⟨rfl, zs, hz, rfl⟩ := LL_cell hx
        have hi : i < d'.size := by
          have := (List.getElem?_eq_some_iff.1 hz).1
          omega
        refine ⟨rfl, encH d'[i], ?_, ?_⟩
        · have h5' : l.length * 1 ≤ cur.size := h5
          have hic : i < cur.size := by omega
          simp only [Nat.mul_one, Nat.add_zero, putCells, Array.getElem?_mapIdx]
          rw [Array.getElem?_eq_getElem hic]
          simp [hi]
        · have : lstH d'[i] = zs := by
            rw [← hys] at hz
            simpa [hi] using hz
          rw [← this]
          exact RI.rd (RI.stab d'[i].h hst)
theorem SortFC.ok {P : Program} {G : Gd} {f g : FuncId} (h : SortFC P f g) : PrimOk P G f (sortFP g) := ⟨h.known, (fun args r hr => (sortF_sound h hr).1), (fun k e sz xs rest r hr e' he => (sortF_sound (G := noG) h hr).2 k e sz xs rest rfl e' he), fun b k xs r hr => by first | (cases hr; done) | (unfold sortFP at hr; (first | (cases hr; done) | (split at hr <;> cases hr; done) | (cases xs <;> cases hr; done) | (simp at hr; done)))⟩
end Ovi

/-! Mt -/
/-! Matches of atoms in facts, rows of answers: plain lists alone. -/
namespace Ovi
open Go
/-- what it takes that terms are values -/
def fitS : List Int → List Int → List Int → Option (List Int)
  | t :: ts, v :: vs, b => if t < 0 then (if v = -1 - t then fitS ts vs b else none) else if b.getD t.toNat 0 = 10 then fitS ts vs (b.set t.toNat v) else if b.getD t.toNat 0 = v then fitS ts vs b else none
  | _, _, b => some b
theorem fitS_len : ∀ (ts vs b b' : List Int), fitS ts vs b = some b' → b'.length = b.length
  | [], _, b, b', h => by simp only [fitS] at h; cases h; rfl
  | t :: ts, [], b, b', h => by simp only [fitS] at h; cases h; rfl
  | t :: ts, v :: vs, b, b', h => by
    rw [fitS] at h
    split at h
    · split at h
      · exact fitS_len ts vs b b' h
      · cases h
    · split at h
      · rw [fitS_len ts vs _ b' h, List.length_set]
      · split at h
        · exact fitS_len ts vs b b' h
        · cases h
def fitA (x f : Atom) (b : List Int) : Option (List Int) := if x.1 = f.1 then fitS x.2 f.2 b else none
theorem fitA_len {x f : Atom} {b b' : List Int} (h : fitA x f b = some b') : b'.length = b.length := by
  unfold fitA at h
  split at h
  · exact fitS_len _ _ _ _ h
  · cases h
/-- the matches of the atoms that go on with a binding -/
def mats (fs : List Atom) : List Atom → List Int → BL
  | [], b => [b]
  | x :: xs, b => fs.flatMap fun f => ((fitA x f b).map (mats fs xs)).getD []
theorem mats_len (fs : List Atom) : ∀ (xs : List Atom) (b : List Int), (mats fs xs b).length ≤ fs.length ^ xs.length
  | [], b => by simp [mats]
  | x :: xs, b => by
    rw [mats, List.length_flatMap, List.length_cons, Nat.pow_succ]
    have h : ∀ gs : List Atom, (gs.map fun f => (((fitA x f b).map (mats fs xs)).getD []).length).sum ≤ fs.length ^ xs.length * gs.length := by
      intro gs
      induction gs with
      | nil => simp
      | cons g gs ih =>
        rw [List.map_cons, List.sum_cons, List.length_cons, Nat.mul_succ]
        have : (((fitA x g b).map (mats fs xs)).getD []).length ≤ fs.length ^ xs.length := by
          cases fitA x g b with
          | none => simp
          | some b' => simpa using mats_len fs xs b'
        omega
    exact h fs
theorem mats_mem (fs : List Atom) : ∀ (xs : List Atom) (b c : List Int), c ∈ mats fs xs b → c.length = b.length
  | [], b, c, h => by rw [mats, List.mem_singleton] at h; rw [h]
  | x :: xs, b, c, h => by
    rw [mats, List.mem_flatMap] at h
    obtain ⟨f, _, hc⟩ := h
    cases hf : fitA x f b with
    | none => rw [hf] at hc; simp at hc
    | some b' =>
      rw [hf] at hc
      rw [mats_mem fs xs b' c (by simpa using hc), fitA_len hf]
/-- the first of each -/
def ded : BL → BL → BL
  | out, [] => out
  | out, b :: bs => ded (if b ∈ out then out else out ++ [b]) bs
theorem ded_len : ∀ (bs out : BL), (ded out bs).length ≤ out.length + bs.length
  | [], out => by simp [ded]
  | b :: bs, out => by
    rw [ded]
    have := ded_len bs (if b ∈ out then out else out ++ [b])
    split at this
    · rename_i h; rw [if_pos h]; simp only [List.length_cons]; omega
    · rename_i h; rw [if_neg h]; simp only [List.length_cons, List.length_append, List.length_singleton, List.length_nil] at *; omega
theorem ded_mem : ∀ (bs out : BL) (c : List Int), c ∈ ded out bs ↔ c ∈ out ∨ c ∈ bs
  | [], out, c => by simp [ded]
  | b :: bs, out, c => by
    rw [ded, ded_mem bs]
    by_cases h : b ∈ out
    · rw [if_pos h, List.mem_cons]
      constructor
      · rintro (h' | h')
        · exact .inl h'
        · exact .inr (.inr h')
      · rintro (h' | rfl | h')
        · exact .inl h'
        · exact .inl h
        · exact .inr h'
    · rw [if_neg h, List.mem_append, List.mem_singleton, List.mem_cons]
      constructor
      · rintro ((h' | h') | h')
        · exact .inl h'
        · exact .inr (.inl h')
        · exact .inr (.inr h')
      · rintro (h' | h' | h')
        · exact .inl (.inl h')
        · exact .inl (.inr h')
        · exact .inr h'
def proj (q b : List Int) : List Int := q.map fun v => b.getD v.toNat 0
end Ovi

/-! Cmf -/
namespace Ovi
open Go Go.Proofs Go.RowKit Go.Sort Go.Lib

/-! ### slices.CompactFunc on rows of integer lists, under slices.Equal -/
theorem mem_compactL (zs : BL) (z : List Int) : z ∈ Lib.compact zs ↔ z ∈ zs := by
  unfold Lib.compact Lib.compactUpTo
  simp only [List.mem_map, List.mem_filter, List.mem_range]
  constructor
  · rintro ⟨i, ⟨hi, _⟩, rfl⟩
    rw [getElem!_pos _ i (by simpa using hi)]
    simp
  · intro h
    obtain ⟨i, hi, e⟩ := List.mem_iff_getElem.1 h
    have key : ∀ i, i < zs.length → ∃ j, (j < zs.length ∧ Lib.keeps zs.toArray j = true) ∧ zs.toArray[j]! = zs.toArray[i]! := by
      intro i
      induction i with
      | zero => intro h0; exact ⟨0, ⟨h0, by simp [Lib.keeps]⟩, rfl⟩
      | succ i ih =>
        intro h0
        by_cases hk : Lib.keeps zs.toArray (i + 1) = true
        · exact ⟨i + 1, ⟨h0, hk⟩, rfl⟩
        · have : zs.toArray[i + 1]! = zs.toArray[i]! := by
            simp only [Lib.keeps, decide_eq_true_eq, not_or, Nat.add_sub_cancel, Decidable.not_not] at hk
            exact hk.2
          obtain ⟨j, h1, h2⟩ := ih (by omega)
          exact ⟨j, h1, by rw [h2, this]⟩
    obtain ⟨j, h1, h2⟩ := key i hi
    refine ⟨j, h1, ?_⟩
    rw [h2, getElem!_pos _ i (by simpa using hi)]
    simpa using e
theorem compactL_len (zs : BL) : (Lib.compact zs).length ≤ zs.length := by
  unfold Lib.compact Lib.compactUpTo
  rw [List.length_map]
  exact Nat.le_trans (List.length_filter_le _ _) (by simp)
def compFP (g : Nat) (args : Args) : Option Res := (sortFArg g args).bind fun p => some [(false, [.row p.1 1 (LL (Lib.compact p.2))]), (true, [])]
/-- what is asked of the equality -/
def EqC (P : Program) (g : FuncId) : Prop := ∀ (w : World) (S : Nat → Prop) (u v : Value) (xs ys : List Int), RI w S u xs → RI w S v ys → xs.length ≤ 1099511627776 → ys.length ≤ 1099511627776 →
  Calls P g #[u, v] w fun e w' => e = .returned (.bool (decide (xs = ys))) ∧ ∃ q, w' = w.drewN q
structure CompFC (P : Program) (f g : FuncId) : Prop where
  known : Known P f
  run : ∀ (w : World) (S : Nat → Prop) (blk cap : Nat) (d : Array (HdL w S)), (∀ k, S k → k < w.heap.size) → ¬ S blk → Holds encH w blk 0 d → blk < w.heap.size → d.size < 4611686018427387904 → d.size ≤ cap →
    Calls P f #[.slice (some ⟨blk, 0, none⟩) d.size cap, .func (.func g) #[] #[]] w fun e w' => ∃ (dk : Array (HdL w S)) (q kk : Nat), e = .returned (.slice (some ⟨blk, 0, none⟩) kk cap) ∧ dk.size = d.size ∧ w' = putRow encH (Sort.ahead w q) blk 0 dk ∧ kk ≤ d.size ∧ (dk.toList.take kk).map lstH = Lib.compact (d.toList.map lstH)
  nil : ∀ (A : Option Addr) (cap : Nat) (w : World), Calls P f #[.slice A 0 cap, .func (.func g) #[] #[]] w fun e w' => e = .returned (.slice A 0 cap) ∧ w' = w
theorem fn_arg {w : World} {S T : Nat → Prop} {g : FuncId} {vs : Array Value} (hl : Leaves (AC w S T (fun _ => none) (fun _ => none)) vs [.d (.fn g [])]) : vs = #[.func (.func g) #[] #[]] := by
  obtain ⟨u0, hu0, hrd⟩ := hl.2 0 _ rfl
  have hrd : RD w S T u0 (.fn g []) := hrd
  have h1 : vs.size = 1 := hl.1
  have h2 : u0 = .func (.func g) #[] #[] := by
    generalize hc : ([] : Rows) = CS at hrd
    cases hrd with
    | fn f vs' caps g' k1 k4 k5 =>
      subst hc
      rw [Array.eq_empty_of_size_eq_zero k1]
  subst h2
  apply Array.ext_getElem?
  intro i
  cases i with
  | zero => rw [hu0]; rfl
  | succ i => rw [Array.getElem?_eq_none (by omega), Array.getElem?_eq_none (by simp)]
theorem compF_sound {P : Program} {G : Gd} {fs g : FuncId} (h : CompFC P fs g) {args : Args} {r : Res} (hr : compFP g args = some r) : PlainC P G fs args r ∧ ∀ k e sz xs rest, args = rawTag :: .d (.int k e) :: .d (.list sz xs) :: rest → ∀ e' : Nat, e = e' → RawC P fs e' sz xs rest r := by
  obtain ⟨⟨e0, l⟩, hra, hr⟩ := Option.bind_eq_some_iff.1 hr
  cases hr
  refine ⟨?_, fun k e sz xs rest hargs e' he => ?_⟩
  · obtain ⟨_, _, rfl⟩ := sortFArg_isRaw hra
    exact plain_raw'
  · subst hargs
    obtain ⟨rfl, rfl, rfl, h4, hlen, hlz⟩ := sortFArg_some hra
    simp only at h4 hlen hlz
    subst he h4
    refine Or.inl fun w S T mo u vs hS hT hrow hl => ?_
    obtain rfl := fn_arg hl
    simp only [Int.toNat_natCast]
    have hsl := compactL_len l
    cases mo with
    | none =>
      obtain ⟨_, ⟨_, A, rfl⟩, hn⟩ := hrow
      have hz : l = [] := by simpa [LL] using hn
      subst hz
      refine (h.nil A 0 w).mono fun ex w' ⟨h1, h2⟩ => ⟨_, h1, by subst h2; exact Below.refl _ _, fun _ => ?_⟩
      exact ⟨fun i x hx => by simp [LL, Lib.compact, Lib.compactUpTo] at hx, ⟨by simp [LL, Lib.compact, Lib.compactUpTo], A, rfl⟩, by simp [LL, Lib.compact, Lib.compactUpTo]⟩
    | some b =>
      obtain ⟨_, ⟨cap, cur, rfl, hc, h1, h2, h3⟩, _, hnS, cur', hc', h5, h6⟩ := hrow
      rw [LL_len] at *
      rw [hc] at hc'
      cases hc'
      have hblk : b < w.heap.size := lt_of_blk hc
      obtain ⟨dl, hd1, hdl⟩ := mkH (w := w) (S := S) (cur := cur) l 0 fun i zs hz => by
        obtain ⟨_, v, hv, hrd⟩ := h6 i 0 _ (LL_at hz)
        rw [Nat.mul_one, Nat.add_zero] at hv
        exact ⟨v, by rw [Nat.zero_add]; exact hv, RD.ri hrd, hlz _ (List.mem_of_getElem? hz)⟩
      obtain ⟨d, rfl⟩ : ∃ d : Array (HdL w S), dl = d.toList := ⟨dl.toArray, rfl⟩
      have hd2 : Holds encH w b 0 d := by
        intro j hj
        rw [getElem!_pos d j hj]
        refine ⟨?_, by simp [World.frozen?, hc]⟩
        simp only [World.cell?, hc, Option.isSome_none, Bool.false_eq_true, if_false]
        exact hdl j _ (by simp [hj])
      have hds : d.size = l.length := by rw [← hd1]; simp
      have hcall := h.run w S b cap d hS hnS hd2 hblk (by omega) (by have h1 : l.length ≤ cap := h1; omega)
      rw [hds] at hcall
      refine hcall.mono fun ex w' ⟨dk, q, kk, k1, k2, k3, k4, k5⟩ => ?_
      rw [hd1] at k5
      have k3' : w' = sortWorld encH w b 0 q dk #[] := by rw [k3, sortWorld, grow_empty]
      subst k3'
      have hnew := heapS (enc := encH) (n := q) (os := #[]) dk hc
      have hcsz : (putCells encH 0 dk cur).size = cur.size := by simp [putCells]
      have hst := stabS (enc := encH) (n := q) (os := #[]) dk hS hnS
      have hkk : kk = (Lib.compact l).length := by
        rw [← k5]
        simp only [List.length_map, List.length_take, Array.length_toList]
        omega
      have h5' : l.length * 1 ≤ cur.size := h5
      refine ⟨_, k1, ⟨cur, _, hc, hcsz, rfl, rfl, rfl, by simp [sortWorld, grow, putRow, mapBlock, Sort.ahead, setBlk], fun k hk => ?_⟩, fun _ => ⟨LL_rows _, ?_, Nat.zero_le _, hnS, _, hnew, by rw [LL_len, hcsz]; omega, fun i c x hx => ?_⟩⟩
      · have hk : k < w.heap.size := by simpa using hk
        by_cases hkb : k = b
        · subst hkb
          rw [setBlk_at hblk, hnew]
        · rw [setBlk_ne hkb]
          exact heapO _ hk hkb
      · rw [LL_len, hkk]
        have h1 : l.length ≤ cap := h1
        exact ⟨cap, _, rfl, hnew, by omega, h2, by rw [hcsz]; omega⟩
      · obtain ⟨rfl, zs, hz, rfl⟩ := LL_cell hx
        have hi0 := (List.getElem?_eq_some_iff.1 hz).1
        have hi : i < dk.size := by omega
        refine ⟨rfl, encH dk[i], ?_, ?_⟩
        · have hic : i < cur.size := by omega
          simp only [Nat.mul_one, Nat.add_zero, putCells, Array.getElem?_mapIdx]
          rw [Array.getElem?_eq_getElem hic]
          simp [hi]
        · have : lstH dk[i] = zs := by
            rw [← k5, List.getElem?_map, List.getElem?_take_of_lt (by omega)] at hz
            simpa [hi] using hz
          rw [← this]
          exact RI.rd (RI.stab dk[i].h hst)
theorem CompFC.ok {P : Program} {G : Gd} {f g : FuncId} (h : CompFC P f g) : PrimOk P G f (compFP g) := ⟨h.known, (fun args r hr => (compF_sound h hr).1), (fun k e sz xs rest r hr e' he => (compF_sound (G := noG) h hr).2 k e sz xs rest rfl e' he), fun b k xs r hr => by first | (cases hr; done) | (unfold compFP at hr; (first | (cases hr; done) | (split at hr <;> cases hr; done) | (cases xs <;> cases hr; done) | (simp at hr; done)))⟩
/-- slices.Repeat of one integer -/
def repP (e : Nat) : Args → Option Res
  | [.d (.list 1 [[.int .i64 z]]), .d (.int .i64 n)] => cond (decide (0 ≤ n) && decide (n ≤ 100)) (some [(false, [.row e 1 (I1 (List.replicate n.toNat z))])]) none
  | _ => none
end Ovi

/-! Skw -/
namespace Go.Proofs
open Go.Shelf Go.RowKit Go.Lib Go.Sort
/-! ### a row of elements of k cells: one element laid, the tail cleared -/
section
variable {P : Program} {α : Type} [Inhabited α] {enc : α → List Value} {k : Nat} {w0 W : World} {blk off : Nat} {dk d0 : Array α}
theorem setMany_flat (hk : ∀ x, (enc x).length = k) (d : Array α) (i : Nat) (x : α) (hi : i < d.size) : setMany (flatK enc k d) (i * k) (enc x) = flatK enc k (d.setIfInBounds i x) := by
  refine ext_get! (by simp) fun t ht => ?_
  have ht' : t < d.size * k := by simpa using ht
  have k0 : 0 < k := by
    rcases Nat.eq_zero_or_pos k with h | h
    · subst h; simp at ht'
    · exact h
  rw [get_setMany _ _ _ t (by simpa using ht'), get_flatK _ _ _ t ht', get_flatK _ _ _ t (by simpa using ht'), hk]
  by_cases b : t / k = i
  · rw [if_pos ((blk_iff k i t k0).2 b)]
    subst b
    rw [show t - t / k * k = t % k by rw [Nat.mod_eq_sub_div_mul]]
    simp [hi]
  · rw [if_neg (fun h => b ((blk_iff k i t k0).1 h))]
    have : (d.setIfInBounds i x)[t / k]! = d[t / k]! := by
      simp only [Array.getElem!_eq_getD, Array.getD]
      have hlt : t / k < d.size := (Nat.div_lt_iff_lt_mul k0).2 ht'
      simp [hlt, Array.getElem_setIfInBounds, Ne.symm b]
    rw [this]
theorem SWK.set (h : SWK enc k w0 blk off dk W) (R : RowK enc k w0 blk off d0) (i : Nat) (hi : i < dk.size) (x : α) : SWK enc k w0 blk off (dk.setIfInBounds i x) (W.setCells blk (off + i * k) (enc x)) := by
  obtain ⟨n, os, rfl⟩ := h
  refine ⟨n, os, ?_⟩
  unfold sortWorldK
  rw [setCells_grow _ _ _ _ _ (by show blk < (putRowK enc k _ blk off dk).heap.size; rw [size_putRowK]; exact R.hblk)]
  unfold putRowK
  rw [setCells_putRow _ _ _ _ _ _ (by rw [R.hk, size_flatK]; exact rowK_bnd dk k i hi), setMany_flat R.hk dk i x hi]
theorem SWK.st0 (h : SWK enc k w0 blk off dk W) (R : RowK enc k w0 blk off d0) (hs : dk.size = d0.size) (P : Program) (i : Nat) (hi : i < dk.size) (y : α) :
    Sem.run P (storeCells ⟨blk, off + i * k, none⟩ (enc y) 0) W = .ok () (W.setCells blk (off + i * k) (enc y)) :=
  stores_of_holds P (h.holds R.hblk R.hH hs) (i * k) _ (by rw [R.hk, size_flatK]; exact rowK_bnd dk k i hi) (R.h1 _)
theorem setCells_append (b : Nat) : ∀ (u v : List Value) (o : Nat) (w : World), w.setCells b o (u ++ v) = (w.setCells b o u).setCells b (o + u.length) v
  | [], v, o, w => rfl
  | x :: u, v, o, w => by
    show (w.setCell ⟨b, o, none⟩ x).setCells b (o + 1) (u ++ v) = ((w.setCell ⟨b, o, none⟩ x).setCells b (o + 1) u).setCells b (o + (u.length + 1)) v
    rw [setCells_append b u v (o + 1), show o + 1 + u.length = o + (u.length + 1) by omega]
theorem SWK.lay (R : RowK enc k w0 blk off d0) (z : α) : ∀ (m i : Nat) (dk : Array α) (W : World), SWK enc k w0 blk off dk W → i + m ≤ dk.size → SWK enc k w0 blk off (Lib.lay dk i (List.replicate m z)) (W.setCells blk (off + i * k) (List.replicate m (enc z)).flatten)
  | 0, i, dk, W, h, _ => h
  | m + 1, i, dk, W, h, hi => by
    rw [List.replicate_succ, List.replicate_succ, List.flatten_cons, setCells_append, R.hk, Lib.lay]
    have := SWK.lay R z m (i + 1) _ _ (h.set R i (by omega) z) (by simpa using (by omega : i + 1 + m ≤ dk.size))
    rw [show off + i * k + k = off + (i + 1) * k by rw [Nat.add_mul, Nat.one_mul]; omega]
    exact this
theorem zero_flat (zs : Array Value) (hz : 0 < zs.size) (n : Nat) : (Builtin.zeroCells zs n).toList = (List.replicate n zs.toList).flatten := by
  apply List.ext_getElem?
  intro i
  unfold Builtin.zeroCells
  induction n generalizing i with
  | zero => simp
  | succ n ih =>
    rw [List.replicate_succ, List.flatten_cons]
    by_cases h : i < zs.size
    · rw [List.getElem?_append_left (by simpa using h)]
      have : i < (n + 1) * zs.size := by rw [Nat.add_mul, Nat.one_mul]; omega
      simp [this, Nat.mod_eq_of_lt h, h]
    · rw [List.getElem?_append_right (by simpa using h), Array.length_toList, ← ih (i - zs.size)]
      by_cases h2 : i < (n + 1) * zs.size
      · have h3 : i - zs.size < n * zs.size := by rw [Nat.add_mul, Nat.one_mul] at h2; omega
        simp [h2, h3, Nat.mod_eq_sub_mod (show zs.size ≤ i by omega)]
      · have h3 : ¬ i - zs.size < n * zs.size := by rw [Nat.add_mul, Nat.one_mul] at h2; omega
        simp [h2, h3]
theorem flat_len (l : List Value) (n : Nat) : (List.replicate n l).flatten.length = n * l.length := by simp
/-- the tail cleared -/
theorem SWK.clear (h : SWK enc k w0 blk off dk W) (R : RowK enc k w0 blk off d0) (hs : dk.size = d0.size) (P : Program) (t e ty : TypeId) (z : α) (zv : Value) (ht : P.underlying t = some (.slice e)) (hv : ∀ w, (zeroValue e).run P w = .ok zv w) (hz : zv.cells.toList = enc z) (hk0 : 0 < k) (i n c : Nat) (hn : 0 < n) (hin : i + n ≤ dk.size) :
    (Builtin.clear_ #[t] ty #[.slice (some ⟨blk, off + i * k, none⟩) n c]).run P W = .ok (.tuple #[]) (W.setCells blk (off + i * k) (List.replicate n (enc z)).flatten) := by
  have hsz : 0 < zv.cells.size := by
    have := R.hk z
    rw [← hz, Array.length_toList] at this
    omega
  have hzc : (Builtin.zeroCells zv.cells n).toList = (List.replicate n (enc z)).flatten := by rw [zero_flat _ hsz, hz]
  have hst := stores_of_holds P (h.holds R.hblk R.hH hs) (i * k) (List.replicate n (enc z)).flatten (by
    rw [flat_len, R.hk, size_flatK, ← Nat.add_mul]
    exact Nat.mul_le_mul_right k hin) (fun v hv' => by
    obtain ⟨l, hl, hvl⟩ := List.mem_flatten.1 hv'
    rw [List.eq_of_mem_replicate hl] at hvl
    exact R.h1 z v hvl)
  obtain ⟨m, rfl⟩ : ∃ m, n = m + 1 := ⟨n - 1, by omega⟩
  simp [Builtin.clear_, run_underlying ht, hv, hzc, hst]
end
end Go.Proofs

/-! Raf -/
namespace Ovi
open Go Go.Proofs Go.RowKit Go.Sort Go.Lib

/-! ### slices.SortFunc and slices.CompactFunc on rows of facts (a number and a list of numbers) -/
def cmpA (x y : Atom) : Int := if x.1 < y.1 then -1 else if x.1 > y.1 then 1 else cmpL x.2 y.2
def ltA (x y : Atom) : Bool := decide (cmpA x y < 0)
theorem ltA_iff (x y : Atom) : ltA x y = true ↔ x.1 < y.1 ∨ (x.1 = y.1 ∧ x.2 < y.2) := by
  rw [← ltL_iff]
  unfold ltA ltL cmpA
  simp only [decide_eq_true_eq]
  by_cases h1 : x.1 < y.1
  · simp [h1]
  · by_cases h2 : x.1 > y.1
    · rw [if_neg h1, if_pos h2]
      constructor
      · intro h; omega
      · rintro (h | ⟨h, _⟩) <;> omega
    · have h3 : x.1 = y.1 := by omega
      rw [if_neg h1, if_neg h2]
      constructor
      · intro h; exact .inr ⟨h3, h⟩
      · rintro (h | ⟨_, h⟩)
        · omega
        · exact h
theorem ltA_f (x y : Atom) : ltA x y = false ↔ y.1 < x.1 ∨ (y.1 = x.1 ∧ y.2 ≤ x.2) := by
  rw [← Bool.not_eq_true, ltA_iff, ← List.not_lt]
  constructor
  · intro h
    by_cases h1 : y.1 < x.1
    · exact .inl h1
    · have : ¬ x.1 < y.1 := fun hh => h (.inl hh)
      have e : y.1 = x.1 := by omega
      exact .inr ⟨e, fun hh => h (.inr ⟨e.symm, hh⟩)⟩
  · rintro (h | ⟨h, h2⟩) (h3 | ⟨h3, h4⟩)
    · omega
    · omega
    · omega
    · exact h2 h4
theorem swoA : SWO ltA where
  irrefl x := by rw [ltA_f]; exact .inr ⟨rfl, List.le_refl _⟩
  trans x y z h1 h2 := by
    rw [ltA_iff] at *
    rcases h1 with h1 | ⟨h1, h1'⟩ <;> rcases h2 with h2 | ⟨h2, h2'⟩
    · exact .inl (by omega)
    · exact .inl (by omega)
    · exact .inl (by omega)
    · exact .inr ⟨by omega, List.lt_trans h1' h2'⟩
  ntrans x y z h1 h2 := by
    rw [ltA_f] at *
    rcases h1 with h1 | ⟨h1, h1'⟩ <;> rcases h2 with h2 | ⟨h2, h2'⟩
    · exact .inl (by omega)
    · exact .inl (by omega)
    · exact .inl (by omega)
    · exact .inr ⟨by omega, List.le_trans h2' h1'⟩
theorem antiA (x y : Atom) (h1 : ltA x y = false) (h2 : ltA y x = false) : x = y := by
  rw [ltA_f] at h1 h2
  rcases h1 with h1 | ⟨h1, h1'⟩ <;> rcases h2 with h2 | ⟨h2, h2'⟩
  · omega
  · omega
  · omega
  · exact Prod.ext h2 (List.le_antisymm h2' h1')
def sortAtoms (l : List Atom) : List Atom := l.mergeSort fun x y => !ltA y x
theorem mem_sortAtoms (l : List Atom) (b : Atom) : b ∈ sortAtoms l ↔ b ∈ l := by simp [sortAtoms]
theorem sortAtoms_len (l : List Atom) : (sortAtoms l).length = l.length := by simp [sortAtoms]
theorem sortAtoms_srt (l : List Atom) : (sortAtoms l).Pairwise fun x y => ltA y x = false := by
  have : (sortAtoms l).Pairwise fun x y => (!ltA y x) = true := by
    refine List.pairwise_mergeSort ?_ ?_ _
    · intro a b c h1 h2
      simp only [Bool.not_eq_true'] at h1 h2 ⊢
      exact swoA.ntrans c b a h2 h1
    · intro a b
      cases h : ltA b a with
      | false => simp
      | true =>
        have : ltA a b = false := by
          cases h' : ltA a b with
          | false => rfl
          | true => have := swoA.trans _ _ _ h h'; rw [swoA.irrefl] at this; cases this
        simp [this]
  exact this.imp fun h => by simpa using h
theorem srtA_unique {l l' : List Atom} (hp : l'.Perm l) (hs : l'.Pairwise fun x y => ltA y x = false) : l' = sortAtoms l := by
  refine List.Perm.eq_of_pairwise (le := fun x y => ltA y x = false) ?_ hs (sortAtoms_srt l) (hp.trans (List.mergeSort_perm _ _).symm)
  intro a b _ _ h1 h2
  exact antiA a b h2 h1
theorem A1_rows (l : List Atom) : ∀ (i : Nat) (x : List D), (A1 l)[i]? = some x → x.length = 2 := by
  intro i x h
  simp only [A1, List.getElem?_map] at h
  obtain ⟨z, _, rfl⟩ := Option.map_eq_some_iff.1 h
  rfl
theorem A1_cell {l : List Atom} {i c : Nat} {x : D} (h : cellD (A1 l) i c = some x) : ∃ z, l[i]? = some z ∧ ((c = 0 ∧ x = .int .i64 z.1) ∨ (c = 1 ∧ x = .list 1 (I1 z.2))) := by
  obtain ⟨row, hr, hc⟩ := cellD_lt h
  simp only [A1, List.getElem?_map] at hr
  obtain ⟨z, hz, rfl⟩ := Option.map_eq_some_iff.1 hr
  refine ⟨z, hz, ?_⟩
  match c, hc with
  | 0, hc => cases hc; exact .inl ⟨rfl, rfl⟩
  | 1, hc => cases hc; exact .inr ⟨rfl, rfl⟩
  | c + 2, hc => simp at hc
theorem A1_at0 {l : List Atom} {i : Nat} {z : Atom} (h : l[i]? = some z) : cellD (A1 l) i 0 = some (.int .i64 z.1) := by simp [cellD, A1_get h]
theorem A1_at1 {l : List Atom} {i : Nat} {z : Atom} (h : l[i]? = some z) : cellD (A1 l) i 1 = some (.list 1 (I1 z.2)) := by simp [cellD, A1_get h]
def atomsOf : Rows → Option (List Atom)
  | [] => some []
  | [.int .i64 r, .list 1 xs] :: q => (ints xs).bind fun zs => (atomsOf q).bind fun l => some ((r, zs) :: l)
  | _ => none
theorem atomsOf_A1 (l : List Atom) : atomsOf (A1 l) = some l := by
  induction l with
  | nil => rfl
  | cons z l ih =>
    show ((ints (I1 z.2)).bind fun zs => (atomsOf (A1 l)).bind fun l => some ((z.1, zs) :: l)) = _
    rw [ih, ints_I1]
    rfl
theorem atomsOf_some : ∀ {xs : Rows} {l : List Atom}, atomsOf xs = some l → xs = A1 l
  | [], l, h => by cases h; rfl
  | [.int .i64 r, .list 1 xs] :: q, l, h => by
    unfold atomsOf at h
    obtain ⟨zs, h1, h⟩ := Option.bind_eq_some_iff.1 h
    obtain ⟨l', h2, h⟩ := Option.bind_eq_some_iff.1 h
    cases h
    rw [atomsOf_some h2, ints_some h1]
    rfl
def atomArg (g : Nat) : Args → Option (Nat × List Atom)
  | [.var 0 0, .d (.int .i64 e), .d (.list 2 xs), .d (.fn g' [])] => cond (Nat.beq g' g) ((atomsOf xs).bind fun l => cond (Nat.ble l.length 1099511627776 && l.all fun z => Nat.ble z.2.length 1099511627776) (some (e.toNat, l)) none) none
  | _ => none
def sortAP (g : Nat) (args : Args) : Option Res := (atomArg g args).bind fun p => some [(false, [.row p.1 2 (A1 (sortAtoms p.2))])]
def compAP (g : Nat) (args : Args) : Option Res := (atomArg g args).bind fun p => some [(false, [.row p.1 2 (A1 (Lib.compact p.2))]), (true, [])]
theorem atomArg_isRaw {g : Nat} {args : Args} {p : Nat × List Atom} (h : atomArg g args = some p) : ∃ e xs, args = [.var 0 0, .d (.int .i64 e), .d (.list 2 xs), .d (.fn g [])] := by
  unfold atomArg at h
  split at h
  · rename_i e xs g'
    cases hb : Nat.beq g' g with
    | false => rw [hb] at h; cases h
    | true => exact ⟨e, xs, by rw [Nat.eq_of_beq_eq_true hb]⟩
  · cases h
theorem atomArg_some {g : Nat} {k : IntKind} {e : Int} {sz : Nat} {xs : Rows} {rest : Args} {p : Nat × List Atom} (h : atomArg g (rawTag :: .d (.int k e) :: .d (.list sz xs) :: rest) = some p) : sz = 2 ∧ rest = [.d (.fn g [])] ∧ xs = A1 p.2 ∧ p.1 = e.toNat ∧ p.2.length ≤ 1099511627776 ∧ ∀ z ∈ p.2, z.2.length ≤ 1099511627776 := by
  obtain ⟨e1, xs1, heq⟩ := atomArg_isRaw h
  simp only [rawTag, List.cons.injEq, AV.d.injEq, D.int.injEq, D.list.injEq, true_and] at heq
  obtain ⟨⟨rfl, rfl⟩, ⟨rfl, rfl⟩, rfl⟩ := heq
  simp only [atomArg, rawTag, show Nat.beq g g = true from Nat.beq_refl g, cond_true] at h
  obtain ⟨l, hl, h⟩ := Option.bind_eq_some_iff.1 h
  cases hb : (Nat.ble l.length 1099511627776 && l.all fun z => Nat.ble z.2.length 1099511627776) with
  | false => rw [hb] at h; cases h
  | true =>
    rw [hb] at h
    cases h
    rw [Bool.and_eq_true, List.all_eq_true] at hb
    exact ⟨rfl, rfl, atomsOf_some hl, rfl, Nat.le_of_ble_eq_true hb.1, fun z hz => Nat.le_of_ble_eq_true (hb.2 z hz)⟩
structure HdA (w : World) (S : Nat → Prop) where
  r : Int
  v : Value
  l : List Int
  h : RI w S v l
  b : l.length ≤ 1099511627776
section
variable {w : World} {S : Nat → Prop}
def encA (h : HdA w S) : List Value := [.int .i64 h.r, h.v]
def lstA (h : HdA w S) : Int × List Int := (h.r, h.l)
def zeroA (w : World) (S : Nat → Prop) : HdA w S := ⟨0, .slice none 0 0, [], ⟨none, 0, rfl, Nat.le_refl _, fun i z h => by simp at h⟩, by simp⟩
instance : Inhabited (HdA w S) := ⟨zeroA w S⟩
theorem encA_zero : encA (zeroA w S) = [.int .i64 0, .slice none 0 0] := rfl
theorem encA_len (x : HdA w S) : (encA x).length = 2 := rfl
theorem encA_one (x : HdA w S) : ∀ v ∈ encA x, v.oneCell' = true := by
  obtain ⟨r, v, l, ⟨A, c, rfl, _⟩, _⟩ := x
  intro v hv
  simp only [encA, List.mem_cons, List.not_mem_nil, or_false] at hv
  rcases hv with rfl | rfl <;> rfl
def cmpHA (x y : HdA w S) : Int := cmpA (lstA x) (lstA y)
theorem swoHA : SWO (ltOf (cmpHA (w := w) (S := S))) := ⟨fun x => swoA.irrefl _, fun x y z h1 h2 => swoA.trans _ _ _ h1 h2, fun x y z h1 h2 => swoA.ntrans _ _ _ h1 h2⟩
end
theorem sortWorldK_id {w : World} {S : Nat → Prop} (blk m : Nat) (dk : Array (HdA w S)) (os : Array Obj) : sortWorldK encA 2 w blk 0 m dk os = sortWorld id w blk 0 m (flatK encA 2 dk) os := rfl
/-- what the shelf promises of slices.SortFunc at rows of facts -/
structure SortAC (P : Program) (f g : FuncId) : Prop where
  known : Known P f
  run : ∀ (w : World) (S : Nat → Prop) (blk cap : Nat) (d : Array (HdA w S)), (∀ k, S k → k < w.heap.size) → ¬ S blk → HoldsK encA 2 w blk 0 d → blk < w.heap.size → d.size < 4611686018427387904 →
    Calls P f #[.slice (some ⟨blk, 0, none⟩) d.size cap, .func (.func g) #[] #[]] w fun e w' => e = .returned (.tuple #[]) ∧ ∃ (d' : Array (HdA w S)) (n : Nat) (os : Array Obj), PermIn 0 d.size d d' ∧ SortedIn (ltOf cmpHA) 0 d.size d' ∧ w' = sortWorldK encA 2 w blk 0 n d' os
  nil : ∀ (A : Option Addr) (w : World), Calls P f #[.slice A 0 0, .func (.func g) #[] #[]] w fun e w' => e = .returned (.tuple #[]) ∧ Below w.heap.size w w'
/-- what a walk shows of slices.CompactFunc there -/
structure CompAC (P : Program) (f g : FuncId) : Prop where
  known : Known P f
  run : ∀ (w : World) (S : Nat → Prop) (blk cap : Nat) (d : Array (HdA w S)), (∀ k, S k → k < w.heap.size) → ¬ S blk → HoldsK encA 2 w blk 0 d → blk < w.heap.size → d.size < 4611686018427387904 → d.size ≤ cap →
    Calls P f #[.slice (some ⟨blk, 0, none⟩) d.size cap, .func (.func g) #[] #[]] w fun e w' => ∃ (dk : Array (HdA w S)) (kk n : Nat) (os : Array Obj), e = .returned (.slice (some ⟨blk, 0, none⟩) kk cap) ∧ dk.size = d.size ∧ w' = sortWorldK encA 2 w blk 0 n dk os ∧ kk ≤ d.size ∧ (dk.toList.take kk).map lstA = Lib.compact (d.toList.map lstA)
  nil : ∀ (A : Option Addr) (cap : Nat) (w : World), Calls P f #[.slice A 0 cap, .func (.func g) #[] #[]] w fun e w' => e = .returned (.slice A 0 cap) ∧ w' = w
theorem mkA {w : World} {S : Nat → Prop} {cur : Array Value} : ∀ (l : List Atom) (o : Nat), (∀ i z, l[i]? = some z → ∃ v, cur[(o + i) * 2]? = some (.int .i64 z.1) ∧ cur[(o + i) * 2 + 1]? = some v ∧ RI w S v z.2 ∧ z.2.length ≤ 1099511627776) → ∃ d : List (HdA w S), d.map lstA = l ∧ ∀ j x, d[j]? = some x → cur[(o + j) * 2]? = some (.int .i64 x.r) ∧ cur[(o + j) * 2 + 1]? = some x.v
  | [], o, _ => ⟨[], rfl, fun j x h => by simp at h⟩
  | z :: l, o, h => by
    obtain ⟨d, h1, h2⟩ := mkA l (o + 1) fun i zs hz => by
      have := h (i + 1) zs (by simpa using hz)
      rwa [show o + (i + 1) = o + 1 + i by omega] at this
    obtain ⟨v, hv0, hv, hr, hzb⟩ := h 0 z rfl
    refine ⟨(⟨z.1, v, z.2, hr, hzb⟩ : HdA w S) :: d, by rw [List.map_cons, h1]; rfl, fun j x hx => ?_⟩
    cases j with
    | zero => cases hx; exact ⟨hv0, hv⟩
    | succ j => rw [show o + (j + 1) = o + 1 + j by omega]; exact h2 j x (by simpa using hx)
theorem RD.int_eq {w : World} {S T : Nat → Prop} {v : Value} {z : Int} (h : RD w S T v (.int .i64 z)) : v = .int .i64 z := by cases h; rfl
section
variable {P : Program} {G : Gd} {w : World} {S T : Nat → Prop} {b e cap : Nat} {l : List Atom} {u : Value} {fs g : FuncId}
/-- the row taken apart -/
theorem takeA {cur : Array Value} {fr : Nat × Nat} (hc : w.heap[b]? = some (.cells cur e fr)) (hlz : ∀ z ∈ l, z.2.length ≤ 1099511627776) (h6 : ∀ i c x, cellD (A1 l) i c = some x → x.isFn = false ∧ ∃ v, cur[i * 2 + c]? = some v ∧ RD w S T v x) :
    ∃ d : Array (HdA w S), d.toList.map lstA = l ∧ d.size = l.length ∧ (fr = (0, 0) → HoldsK encA 2 w b 0 d) := by
  obtain ⟨dl, hd1, hdl⟩ := mkA (w := w) (S := S) (cur := cur) l 0 fun i z hz => by
    obtain ⟨_, v0, hv0, hrd0⟩ := h6 i 0 _ (A1_at0 hz)
    obtain ⟨_, v, hv, hrd⟩ := h6 i 1 _ (A1_at1 hz)
    rw [RD.int_eq hrd0] at hv0
    rw [Nat.zero_add]
    exact ⟨v, hv0, hv, RD.ri hrd, hlz _ (List.mem_of_getElem? hz)⟩
  refine ⟨dl.toArray, by simpa using hd1, by rw [← hd1]; simp, fun hfr => ?_⟩
  subst hfr
  intro t ht
  rw [size_flatK] at ht
  have hts : t / 2 < dl.toArray.size := by omega
  have hx := hdl (t / 2) _ (by rw [List.getElem?_eq_getElem (by simpa using hts)])
  rw [Nat.zero_add] at hx
  refine ⟨?_, by simp [World.frozen?, hc]⟩
  simp only [World.cell?, hc, Option.isSome_none, Bool.false_eq_true, if_false, Nat.zero_add, id]
  rw [get_flatK _ _ _ _ ht, getElem!_pos _ (t / 2) hts]
  rcases Nat.mod_two_eq_zero_or_one t with h | h
  · rw [h]
    have e : t = t / 2 * 2 := by omega
    have h1 := hx.1
    rw [← e] at h1
    rw [h1]
    simp [encA]
  · rw [h]
    have e : t = t / 2 * 2 + 1 := by omega
    have h1 := hx.2
    rw [← e] at h1
    rw [h1]
    simp [encA]
/-- the row put back -/
theorem putA {cur : Array Value} (hS : ∀ k, S k → k < w.heap.size) (hnS : ¬ S b) (hc : w.heap[b]? = some (.cells cur e (0, 0))) (dk : Array (HdA w S)) (n : Nat) (os : Array Obj) (kk : Nat) (hcs : dk.size * 2 ≤ cur.size) (hkk : kk ≤ dk.size) :
    ∀ i c x, cellD (A1 ((dk.toList.take kk).map lstA)) i c = some x → x.isFn = false ∧ ∃ v, (putCells id 0 (flatK encA 2 dk) cur)[i * 2 + c]? = some v ∧ RD (sortWorldK encA 2 w b 0 n dk os) S T v x := by
  intro i c x hx
  have hst := stabS (enc := id) (n := n) (os := os) (flatK encA 2 dk) hS hnS
  obtain ⟨z, hz, hcx⟩ := A1_cell hx
  rw [List.getElem?_map, Option.map_eq_some_iff] at hz
  obtain ⟨h, hh, rfl⟩ := hz
  have hi0 := (List.getElem?_eq_some_iff.1 hh).1
  rw [List.length_take, Array.length_toList] at hi0
  have hi : i < dk.size := by omega
  rw [List.getElem?_take_of_lt (by omega), Array.getElem?_toList, Array.getElem?_eq_getElem hi, Option.some.injEq] at hh
  have hcell : ∀ c, c < 2 → (putCells id 0 (flatK encA 2 dk) cur)[i * 2 + c]? = some ((encA dk[i])[c]!) := by
    intro c hc2
    have hic : i * 2 + c < cur.size := by omega
    have hif : i * 2 + c < dk.size * 2 := by omega
    have hgf := get_flatK encA 2 dk (i * 2 + c) hif
    rw [show (i * 2 + c) / 2 = i by omega, show (i * 2 + c) % 2 = c by omega, getElem!_pos dk i hi] at hgf
    simp only [putCells, Array.getElem?_mapIdx]
    rw [Array.getElem?_eq_getElem hic]
    simp only [Option.map_some, size_flatK, Nat.sub_zero, Nat.zero_le, Nat.zero_add, true_and, hif, if_true, id, hgf]
  rcases hcx with ⟨rfl, rfl⟩ | ⟨rfl, rfl⟩
  · refine ⟨rfl, _, hcell 0 (by omega), ?_⟩
    rw [← hh]
    exact .int _ _
  · refine ⟨rfl, _, hcell 1 (by omega), ?_⟩
    rw [← hh]
    exact RI.rd (RI.stab dk[i].h hst)
theorem turnA {cur : Array Value} (hc : w.heap[b]? = some (.cells cur e (0, 0))) (dk : Array (HdA w S)) (n : Nat) (os : Array Obj) : Turned w (some b) e (sortWorldK encA 2 w b 0 n dk os) := by
  have hblk : b < w.heap.size := lt_of_blk hc
  have hnew := heapS (enc := id) (n := n) (os := os) (flatK encA 2 dk) hc
  refine ⟨cur, _, hc, (by simp [putCells] : (putCells id 0 (flatK encA 2 dk) cur).size = cur.size), rfl, rfl, rfl, by simp [sortWorldK_id, sortWorld, grow, putRow, mapBlock, Sort.ahead, setBlk], fun k hk => ?_⟩
  have hk : k < w.heap.size := by simpa using hk
  by_cases hkb : k = b
  · subst hkb
    rw [setBlk_at hblk]
    exact hnew
  · rw [setBlk_ne hkb]
    exact heapO _ hk hkb
theorem sortA_sound (h : SortAC P fs g) {args : Args} {r : Res} (hr : sortAP g args = some r) : PlainC P G fs args r ∧ ∀ k e sz xs rest, args = rawTag :: .d (.int k e) :: .d (.list sz xs) :: rest → ∀ e' : Nat, e = e' → RawC P fs e' sz xs rest r := by
  obtain ⟨⟨e0, l⟩, hra, hr⟩ := Option.bind_eq_some_iff.1 hr
  cases hr
  refine ⟨?_, fun k e sz xs rest hargs e' he => ?_⟩
  · obtain ⟨_, _, rfl⟩ := atomArg_isRaw hra
    exact plain_raw'
  · subst hargs
    obtain ⟨rfl, rfl, rfl, h4, hlen, hlz⟩ := atomArg_some hra
    simp only at h4 hlen hlz
    subst he h4
    refine Or.inl fun w S T mo u vs hS hT hrow hl => ?_
    obtain rfl := fn_arg hl
    simp only [Int.toNat_natCast]
    have hsl := sortAtoms_len l
    cases mo with
    | none =>
      obtain ⟨_, ⟨_, A, rfl⟩, hn⟩ := hrow
      have hz : l = [] := by simpa [A1] using hn
      subst hz
      refine (h.nil A w).mono fun ex w' ⟨h1, h2⟩ => ⟨_, h1, h2, fun _ => ⟨by simp [A1, sortAtoms], rfl, ?_⟩⟩
      refine ⟨fun i x hx => by simp [A1, sortAtoms] at hx, ⟨by simp [A1, sortAtoms], A, rfl⟩, by simp [A1, sortAtoms]⟩
    | some b =>
      obtain ⟨_, ⟨cap, cur, rfl, hc, h1, h2, h3⟩, _, hnS, cur', hc', h5, h6⟩ := hrow
      rw [A1_len] at *
      rw [hc] at hc'
      cases hc'
      have hblk : b < w.heap.size := lt_of_blk hc
      obtain ⟨d, hd1, hds, hd2⟩ := takeA (S := S) hc hlz h6
      have hcall := h.run w S b cap d hS hnS (hd2 rfl) hblk (by omega)
      rw [hds] at hcall
      refine hcall.mono fun ex w' ⟨k1, d', n, os, ⟨p1, _, p3⟩, k3, k4⟩ => ?_
      subst k4
      have hds' : d'.size = l.length := by rw [p1, hds]
      have hext : ∀ (a : Array (HdA w S)) (m : Nat), a.size = m → a.extract 0 m = a := fun a m hm => by subst hm; exact Array.extract_size
      rw [hext d' _ hds', hext d _ hds] at p3
      have hys : d'.toList.map lstA = sortAtoms l := by
        refine srtA_unique (by rw [← hd1]; exact p3.map _) ?_
        rw [List.pairwise_map, List.pairwise_iff_getElem]
        intro i j hi hj hij
        have hi' : i < d'.size := by simpa using hi
        have hj' : j < d'.size := by simpa using hj
        have := k3 i j (Nat.zero_le _) hij (by omega)
        rw [getElem!_pos d' j hj', getElem!_pos d' i hi'] at this
        exact this
      have hnew : (sortWorldK encA 2 w b 0 n d' os).heap[b]? = _ := heapS (enc := id) (n := n) (os := os) (flatK encA 2 d') hc
      have hcsz : (putCells id 0 (flatK encA 2 d') cur).size = cur.size := by simp [putCells]
      have h5' : l.length * 2 ≤ cur.size := h5
      have hput := putA (T := T) hS hnS hc d' n os d'.size (by omega) (Nat.le_refl _)
      rw [show d'.toList.take d'.size = d'.toList by rw [show d'.size = d'.toList.length by simp, List.take_length], hys] at hput
      refine ⟨_, k1, turnA hc d' n os, fun _ => ⟨by rw [A1_len, A1_len, hsl], rfl, A1_rows _, ?_, Nat.zero_le _, hnS, _, hnew, by rw [A1_len, hsl, hcsz]; exact h5', hput⟩⟩
      rw [A1_len, hsl]
      exact ⟨cap, _, rfl, hnew, h1, h2, by rw [hcsz]; exact h3⟩
theorem compactA_len (zs : List Atom) : (Lib.compact zs).length ≤ zs.length := by
  unfold Lib.compact Lib.compactUpTo
  rw [List.length_map]
  exact Nat.le_trans (List.length_filter_le _ _) (by simp)
theorem compA_sound (h : CompAC P fs g) {args : Args} {r : Res} (hr : compAP g args = some r) : PlainC P G fs args r ∧ ∀ k e sz xs rest, args = rawTag :: .d (.int k e) :: .d (.list sz xs) :: rest → ∀ e' : Nat, e = e' → RawC P fs e' sz xs rest r := by
  obtain ⟨⟨e0, l⟩, hra, hr⟩ := Option.bind_eq_some_iff.1 hr
  cases hr
  refine ⟨?_, fun k e sz xs rest hargs e' he => ?_⟩
  · obtain ⟨_, _, rfl⟩ := atomArg_isRaw hra
    exact plain_raw'
  · subst hargs
    obtain ⟨rfl, rfl, rfl, h4, hlen, hlz⟩ := atomArg_some hra
    simp only at h4 hlen hlz
    subst he h4
    refine Or.inl fun w S T mo u vs hS hT hrow hl => ?_
    obtain rfl := fn_arg hl
    simp only [Int.toNat_natCast]
    have hsl := compactA_len l
    cases mo with
    | none =>
      obtain ⟨_, ⟨_, A, rfl⟩, hn⟩ := hrow
      have hz : l = [] := by simpa [A1] using hn
      subst hz
      refine (h.nil A 0 w).mono fun ex w' ⟨h1, h2⟩ => ⟨_, h1, by subst h2; exact Below.refl _ _, fun _ => ?_⟩
      exact ⟨fun i x hx => by simp [A1, Lib.compact, Lib.compactUpTo] at hx, ⟨by simp [A1, Lib.compact, Lib.compactUpTo], A, rfl⟩, by simp [A1, Lib.compact, Lib.compactUpTo]⟩
    | some b =>
      obtain ⟨_, ⟨cap, cur, rfl, hc, h1, h2, h3⟩, _, hnS, cur', hc', h5, h6⟩ := hrow
      rw [A1_len] at *
      rw [hc] at hc'
      cases hc'
      have hblk : b < w.heap.size := lt_of_blk hc
      obtain ⟨d, hd1, hds, hd2⟩ := takeA (S := S) hc hlz h6
      have hcall := h.run w S b cap d hS hnS (hd2 rfl) hblk (by omega) (by have h1 : l.length ≤ cap := h1; omega)
      rw [hds] at hcall
      refine hcall.mono fun ex w' ⟨dk, kk, n, os, k1, k2, k3, k4, k5⟩ => ?_
      rw [hd1] at k5
      subst k3
      have hnew : (sortWorldK encA 2 w b 0 n dk os).heap[b]? = _ := heapS (enc := id) (n := n) (os := os) (flatK encA 2 dk) hc
      have hcsz : (putCells id 0 (flatK encA 2 dk) cur).size = cur.size := by simp [putCells]
      have hkk : kk = (Lib.compact l).length := by
        rw [← k5]
        simp only [List.length_map, List.length_take, Array.length_toList]
        omega
      have h5' : l.length * 2 ≤ cur.size := h5
      have hput := putA (T := T) hS hnS hc dk n os kk (by omega) (by omega)
      rw [k5] at hput
      refine ⟨_, k1, turnA hc dk n os, fun _ => ⟨A1_rows _, ?_, Nat.zero_le _, hnS, _, hnew, by rw [A1_len, hcsz]; omega, hput⟩⟩
      rw [A1_len, hkk]
      have h1 : l.length ≤ cap := h1
      exact ⟨cap, _, rfl, hnew, by omega, h2, by rw [hcsz]; exact h3⟩
theorem SortAC.ok (h : SortAC P fs g) : PrimOk P G fs (sortAP g) := ⟨h.known, (fun args r hr => (sortA_sound h hr).1), (fun k e sz xs rest r hr e' he => (sortA_sound (G := noG) h hr).2 k e sz xs rest rfl e' he), fun b k xs r hr => by first | (cases hr; done) | (unfold sortAP at hr; (first | (cases hr; done) | (split at hr <;> cases hr; done) | (cases xs <;> cases hr; done) | (simp at hr; done)))⟩
theorem CompAC.ok (h : CompAC P fs g) : PrimOk P G fs (compAP g) := ⟨h.known, (fun args r hr => (compA_sound h hr).1), (fun k e sz xs rest r hr e' he => (compA_sound (G := noG) h hr).2 k e sz xs rest rfl e' he), fun b k xs r hr => by first | (cases hr; done) | (unfold compAP at hr; (first | (cases hr; done) | (split at hr <;> cases hr; done) | (cases xs <;> cases hr; done) | (simp at hr; done)))⟩
end
end Ovi

/-! Uqa -/
namespace Ovi
open Go Go.Proofs Go.Sort Go.Lib

/-! ### facts in strict order -/
def SSA (l : List Atom) : Prop := l.Pairwise fun x y => ltA x y = true
theorem ltA_tri (x y : Atom) : ltA x y = true ∨ x = y ∨ ltA y x = true := by
  cases h1 : ltA x y with
  | true => exact .inl rfl
  | false =>
    cases h2 : ltA y x with
    | true => exact .inr (.inr rfl)
    | false => exact .inr (.inl (antiA x y h1 h2))
theorem ltA_ne {x y : Atom} (h : ltA x y = true) : x ≠ y := by
  rintro rfl
  rw [swoA.irrefl] at h; cases h
theorem ltA_asymm {x y : Atom} (h : ltA x y = true) : ltA y x = false := by
  cases h' : ltA y x with
  | false => rfl
  | true => have := swoA.trans _ _ _ h h'; rw [swoA.irrefl] at this; cases this
theorem ssA_eq : ∀ {a b : List Atom}, SSA a → SSA b → (∀ z, z ∈ a ↔ z ∈ b) → a = b
  | [], [], _, _, _ => rfl
  | [], y :: b, _, _, h => by have := (h y).2 List.mem_cons_self; cases this
  | x :: a, [], _, _, h => by have := (h x).1 List.mem_cons_self; cases this
  | x :: a, y :: b, ha, hb, h => by
    have ha' := List.pairwise_cons.1 ha
    have hb' := List.pairwise_cons.1 hb
    have hxy : x = y := by
      rcases List.mem_cons.1 ((h x).1 List.mem_cons_self) with e | hx
      · exact e
      · rcases List.mem_cons.1 ((h y).2 List.mem_cons_self) with e | hy
        · exact e.symm
        · have h1 := hb'.1 x hx
          have h2 := ha'.1 y hy
          rw [ltA_asymm h1] at h2; cases h2
    subst hxy
    rw [ssA_eq ha'.2 hb'.2 fun z => ?_]
    constructor
    · intro hz
      rcases List.mem_cons.1 ((h z).1 (List.mem_cons_of_mem _ hz)) with e | h'
      · subst e; exact absurd rfl (ltA_ne (ha'.1 z hz))
      · exact h'
    · intro hz
      rcases List.mem_cons.1 ((h z).2 (List.mem_cons_of_mem _ hz)) with e | h'
      · subst e; exact absurd rfl (ltA_ne (hb'.1 z hz))
      · exact h'
theorem compact_pairwise {α : Type} [DecidableEq α] [Inhabited α] (R : α → α → Prop) (d : List α) (hR : ∀ i j, i ≤ j → j < d.length → d.toArray[i]! ≠ d.toArray[j]! → R d.toArray[i]! d.toArray[j]!) (hmid : ∀ i j m : Nat, i ≤ j → j ≤ m → m < d.length → d.toArray[i]! = d.toArray[m]! → d.toArray[j]! = d.toArray[m]!) : (Lib.compact d).Pairwise R := by
  have key : ∀ m, m ≤ d.length → (Lib.compactUpTo d.toArray m).Pairwise R ∧ ∀ x ∈ Lib.compactUpTo d.toArray m, ∃ i, i < m ∧ x = d.toArray[i]! := by
    intro m
    induction m with
    | zero => intro _; exact ⟨by simp [Lib.compactUpTo], fun x hx => by simp [Lib.compactUpTo] at hx⟩
    | succ m ih =>
      intro hm
      obtain ⟨h1, h2⟩ := ih (by omega)
      rw [Lib.compactUpTo_succ]
      by_cases hk : Lib.keeps d.toArray m = true
      · rw [if_pos hk]
        refine ⟨List.pairwise_append.2 ⟨h1, by simp, fun x hx y hy => ?_⟩, fun x hx => ?_⟩
        · obtain ⟨i, hi, rfl⟩ := h2 x hx
          obtain rfl := List.mem_singleton.1 hy
          refine hR i m (by omega) (by omega) fun he => ?_
          simp only [Lib.keeps, decide_eq_true_eq] at hk
          rcases hk with h0 | h0
          · omega
          · exact h0 (hmid i (m - 1) m (by omega) (by omega) (by omega) he).symm
        · rcases List.mem_append.1 hx with hx | hx
          · obtain ⟨i, hi, e⟩ := h2 x hx
            exact ⟨i, by omega, e⟩
          · exact ⟨m, by omega, List.mem_singleton.1 hx⟩
      · rw [if_neg hk]
        refine ⟨by simpa using h1, fun x hx => ?_⟩
        obtain ⟨i, hi, e⟩ := h2 x (by simpa using hx)
        exact ⟨i, by omega, e⟩
  have := key d.length (Nat.le_refl _)
  exact this.1
theorem ssA_compact (l : List Atom) : SSA (Lib.compact (sortAtoms l)) := by
  have hs := sortAtoms_srt l
  generalize sortAtoms l = d at hs
  have hle : ∀ i j, i ≤ j → j < d.length → ltA d.toArray[j]! d.toArray[i]! = false := by
    intro i j hij hj
    rw [getElem!_pos _ i (by simp; omega), getElem!_pos _ j (by simp; omega)]
    simp only [List.getElem_toArray]
    rcases Nat.lt_or_eq_of_le hij with h | rfl
    · exact List.pairwise_iff_getElem.1 hs i j (by omega) hj h
    · exact swoA.irrefl _
  refine compact_pairwise _ d (fun i j hij hj hne => ?_) (fun i j m h1 h2 h3 he => ?_)
  · rcases ltA_tri d.toArray[i]! d.toArray[j]! with h | h | h
    · exact h
    · exact absurd h hne
    · rw [hle i j hij hj] at h; cases h
  · have a := hle i j h1 (by omega)
    have b := hle j m h2 h3
    rw [he] at a
    exact antiA _ _ b a |>.symm ▸ rfl
theorem mem_compactA (zs : List Atom) (z : Atom) : z ∈ Lib.compact zs ↔ z ∈ zs := by
  unfold Lib.compact Lib.compactUpTo
  simp only [List.mem_map, List.mem_filter, List.mem_range]
  constructor
  · rintro ⟨i, ⟨hi, _⟩, rfl⟩
    rw [getElem!_pos _ i (by simpa using hi)]
    simp
  · intro h
    obtain ⟨i, hi, e⟩ := List.mem_iff_getElem.1 h
    have key : ∀ i, i < zs.length → ∃ j, (j < zs.length ∧ Lib.keeps zs.toArray j = true) ∧ zs.toArray[j]! = zs.toArray[i]! := by
      intro i
      induction i with
      | zero => intro h0; exact ⟨0, ⟨h0, by simp [Lib.keeps]⟩, rfl⟩
      | succ i ih =>
        intro h0
        by_cases hk : Lib.keeps zs.toArray (i + 1) = true
        · exact ⟨i + 1, ⟨h0, hk⟩, rfl⟩
        · have : zs.toArray[i + 1]! = zs.toArray[i]! := by
            simp only [Lib.keeps, decide_eq_true_eq, not_or, Nat.add_sub_cancel, Decidable.not_not] at hk
            exact hk.2
          obtain ⟨j, h1, h2⟩ := ih (by omega)
          exact ⟨j, h1, by rw [h2, this]⟩
    obtain ⟨j, h1, h2⟩ := key i hi
    refine ⟨j, h1, ?_⟩
    rw [h2, getElem!_pos _ i (by simpa using hi)]
    simpa using e
/-- one more fact, in its place -/
theorem ssA_ins {l : List Atom} {f : Atom} {k : Nat} (hs : SSA l) (hf : f ∉ l) (hlt : ∀ j y, j < k → l[j]? = some y → ltA y f = true) (hge : ∀ y, l[k]? = some y → ltA y f = false) : SSA (l.take k ++ f :: l.drop k) := by
  have hgt : ∀ y ∈ l.drop k, ltA f y = true := by
    intro y hy
    obtain ⟨j, hj⟩ := List.mem_iff_getElem?.1 hy
    rw [List.getElem?_drop] at hj
    have hyl := List.mem_of_getElem? hj
    have hkl : k < l.length := by have := (List.getElem?_eq_some_iff.1 hj).1; omega
    have h0 := hge l[k] (List.getElem?_eq_getElem hkl)
    have hk : ltA f l[k] = true := by
      rcases ltA_tri l[k] f with h | h | h
      · rw [h] at h0; cases h0
      · exact absurd (h ▸ List.getElem_mem hkl) hf
      · exact h
    cases j with
    | zero =>
      rw [Nat.add_zero, List.getElem?_eq_getElem hkl] at hj
      cases hj; exact hk
    | succ j =>
      have hjl := (List.getElem?_eq_some_iff.1 hj).1
      have e := (List.getElem?_eq_some_iff.1 hj).2
      have := List.pairwise_iff_getElem.1 hs k (k + (j + 1)) hkl hjl (by omega)
      rw [e] at this
      exact swoA.trans _ _ _ hk this
  refine List.pairwise_append.2 ⟨List.Pairwise.sublist (List.take_sublist k l) hs, List.pairwise_cons.2 ⟨hgt, List.Pairwise.sublist (List.drop_sublist k l) hs⟩, fun x hx y hy => ?_⟩
  obtain ⟨j, hj⟩ := List.mem_iff_getElem?.1 hx
  have hjk : j < k := by
    have := (List.getElem?_eq_some_iff.1 hj).1
    rw [List.length_take] at this; omega
  rw [List.getElem?_take_of_lt hjk] at hj
  have hxf := hlt j x hjk hj
  rcases List.mem_cons.1 hy with rfl | hy
  · exact hxf
  · exact swoA.trans _ _ _ hxf (hgt y hy)
theorem mem_ins {α : Type} {l : List α} {f z : α} (k : Nat) : z ∈ l.take k ++ f :: l.drop k ↔ z ∈ l ∨ z = f := by
  rw [List.mem_append, List.mem_cons]
  have : z ∈ l ↔ z ∈ l.take k ∨ z ∈ l.drop k := by rw [← List.mem_append, List.take_append_drop]
  rw [this]
  constructor
  · rintro (h | h | h)
    · exact .inl (.inl h)
    · exact .inr h
    · exact .inl (.inr h)
  · rintro ((h | h) | h)
    · exact .inl h
    · exact .inr (.inr h)
    · exact .inr (.inl h)
end Ovi

/-! Clk -/
namespace Ovi
open Go Go.Proofs Go.RowKit Go.Lib

/-! ### slices.Clone of a row that is not empty, whatever its elements -/
structure CloneKC (P : Program) (f : FuncId) (e sz : Nat) : Prop where
  known : Known P f
  pos : 0 < sz
  run : ∀ (b off n c : Nat) (news : List Value) (w : World), news.length = n * sz → n ≤ 1099511627776 → (∀ j u, news[j]? = some u → w.cell? ⟨b, off + j, none⟩ = some u) → (∀ u ∈ news, u.oneCell' = true) →
    Calls P f #[.slice (some ⟨b, off, none⟩) n c] w fun ex w' => ∃ v', ex = .returned v' ∧ w'.ownsRow w.heap.size e sz v' n news ∧ Below w.heap.size w w'
def cloneKP (e sz : Nat) : Args → Option Res
  | [.d (.list sz' xs)] => cond (Nat.beq sz' sz && (Nat.ble 1 xs.length && Nat.ble xs.length 1099511627776)) (some [(false, [.row e sz xs])]) none
  | _ => none
theorem RD.one {w : World} {S T : Nat → Prop} {v : Value} {x : D} (h : RD w S T v x) : v.oneCell' = true := by cases h <;> rfl
theorem cloneK_sound {P : Program} {G : Gd} {f : FuncId} {e sz : Nat} (h : CloneKC P f e sz) {args : Args} {r : Res} (hr : cloneKP e sz args = some r) : PlainC P G f args r ∧ isRaw args = false := by
  unfold cloneKP at hr
  split at hr
  · rename_i sz' xs
    cases hb : (Nat.beq sz' sz && (Nat.ble 1 xs.length && Nat.ble xs.length 1099511627776)) with
    | false => rw [hb] at hr; cases hr
    | true =>
      rw [hb] at hr
      cases hr
      rw [Bool.and_eq_true, Bool.and_eq_true] at hb
      obtain ⟨hb0, hb1, hb2⟩ := hb
      obtain rfl := Nat.eq_of_beq_eq_true hb0
      have hb1 := Nat.le_of_ble_eq_true hb1
      have hb2 := Nat.le_of_ble_eq_true hb2
      have hpos := h.pos
      refine ⟨?_, rfl⟩
      intro w S T vs hS hT hl _
      obtain ⟨u, hu, hrd⟩ := hl.2 0 _ rfl
      have hvs : vs = #[u] := by
        have h1 : vs.size = 1 := hl.1
        apply Array.ext_getElem?
        intro i
        cases i with
        | zero => rw [hu]; rfl
        | succ i => rw [Array.getElem?_eq_none (by omega), Array.getElem?_eq_none (by simp)]
      subst hvs
      have hrd : RD w S T u (.list sz' xs) := hrd
      cases hrd with
      | list A cap _ _ g h1 h3 h4 h5 h6 =>
        have hcd : ∀ i c, i < xs.length → c < sz' → ∃ x, cellD xs i c = some x := by
          intro i c hi hc
          have hl3 := h3 i _ (List.getElem?_eq_getElem hi)
          exact ⟨xs[i][c]'(by omega), by simp [cellD, hi, List.getElem?_eq_getElem (show c < (xs[i]).length by omega)]⟩
        obtain ⟨x0, hx0⟩ := hcd 0 0 hb1 hpos
        obtain ⟨ad, hA, hSad, hc0⟩ := h4 0 0 _ hx0
        subst hA
        obtain ⟨b, off, spot⟩ := ad
        have hspot : spot = none := by simpa [Addr.add] using World.cell?_spot hc0
        subst hspot
        have news : List Value := []
        clear news
        generalize hnews : ((List.range (xs.length * sz')).map fun t => g (t / sz') (t % sz')) = news
        have hnl : news.length = xs.length * sz' := by rw [← hnews]; simp
        have hget : ∀ t u, news[t]? = some u → t < xs.length * sz' ∧ u = g (t / sz') (t % sz') := by
          intro t u ht
          have hlt := (List.getElem?_eq_some_iff.1 ht).1
          rw [hnl] at hlt
          rw [← hnews] at ht
          simp [hlt] at ht
          exact ⟨hlt, ht.symm⟩
        have hdm : ∀ t, t < xs.length * sz' → t / sz' < xs.length ∧ t % sz' < sz' ∧ t / sz' * sz' + t % sz' = t := fun t ht =>
          ⟨(Nat.div_lt_iff_lt_mul hpos).2 ht, Nat.mod_lt _ hpos, by have := Nat.div_add_mod t sz'; rw [Nat.mul_comm] at this; exact this⟩
        refine (h.run b off xs.length cap news w hnl hb2 (fun t u ht => ?_) (fun u hu => ?_)).mono fun ex w' ⟨v, k1, k2, k3⟩ => ?_
        · obtain ⟨hlt, rfl⟩ := hget t u ht
          obtain ⟨d1, d2, d3⟩ := hdm t hlt
          obtain ⟨x, hx⟩ := hcd _ _ d1 d2
          obtain ⟨ad, e1, _, e3⟩ := h4 _ _ _ hx
          cases e1
          rw [d3, add_at] at e3
          exact e3
        · obtain ⟨t, ht⟩ := List.mem_iff_getElem?.1 hu
          obtain ⟨hlt, rfl⟩ := hget t u ht
          obtain ⟨d1, d2, d3⟩ := hdm t hlt
          obtain ⟨x, hx⟩ := hcd _ _ d1 d2
          exact (h5 _ _ _ hx).one
        · subst k1
          have hst : Stab S w w' := fun k hk => k3.block k (hS k hk)
          have htt : Stab T w w' := fun k hk => k3.block k (hT k hk)
          have hrow : ∃ mo, rowC w' S T w.heap.size mo e sz' xs v := by
            obtain ⟨_, k2⟩ := k2
            rcases k2 with ⟨rfl, h0⟩ | ⟨q, cap', cur, rfl, hb', hg, q1, q2, q3, q4⟩
            · omega
            · refine ⟨some q, h3, ⟨cap', cur, rfl, hg, q1, q2, q3⟩, hb', fun hh => by have := hS q hh; omega, cur, hg, ?_, fun i c x hx => ?_⟩
              · have := congrArg List.length q4
                rw [List.length_take, hnl] at this
                have hcl : cur.toList.length = cur.size := rfl
                omega
              · obtain ⟨row, hr1, hr2⟩ := cellD_lt hx
                have hi := (List.getElem?_eq_some_iff.1 hr1).1
                have hc := (List.getElem?_eq_some_iff.1 hr2).1
                rw [h3 _ _ hr1] at hc
                have hlt : i * sz' + c < xs.length * sz' := by
                  have := Nat.mul_le_mul_right sz' (show i + 1 ≤ xs.length from hi)
                  rw [Nat.add_mul, Nat.one_mul] at this
                  omega
                refine ⟨h6 _ _ _ hx, g i c, ?_, RD.mono hst htt (fun _ h => h) (fun _ h => h) (h5 _ _ _ hx)⟩
                have : (cur.toList.take (xs.length * sz'))[i * sz' + c]? = news[i * sz' + c]? := by rw [q4]
                rw [List.getElem?_take_of_lt hlt] at this
                rw [← Array.getElem?_toList, this, ← hnews]
                have e1 : (i * sz' + c) / sz' = i := by rw [Nat.mul_comm, Nat.mul_add_div hpos, Nat.div_eq_of_lt hc, Nat.add_zero]
                have e2 : (i * sz' + c) % sz' = c := by rw [Nat.mul_comm, Nat.mul_add_mod, Nat.mod_eq_of_lt hc]
                simp [hlt, e1, e2]
          obtain ⟨mo, hrow⟩ := hrow
          refine ⟨v, S, fun _ _ => mo, rfl, k3, fun _ h => h, fun _ h => .inl h, ⟨⟨[v], rfl, rfl, fun i x hx => ?_⟩, fun i j i' j' b h1 h2 _ _ => ?_⟩, frC.none rfl⟩
          · cases i with
            | zero => cases hx; exact ⟨v, rfl, _, rfl, hrow⟩
            | succ i => simp at hx
          · have key : ∀ i j, isRow (leafAt [(false, [.row e sz' xs])] i j) = true → i = 0 ∧ j = 0 := by
              intro i j hij
              cases i with
              | zero =>
                cases j with
                | zero => exact ⟨rfl, rfl⟩
                | succ j => simp [leafAt, isRow] at hij
              | succ i => simp [leafAt, isRow] at hij
            obtain ⟨rfl, rfl⟩ := key i j h1
            obtain ⟨rfl, rfl⟩ := key i' j' h2
            exact ⟨rfl, rfl⟩
  · cases hr
theorem CloneKC.ok {P : Program} {G : Gd} {f : FuncId} {e sz : Nat} (h : CloneKC P f e sz) : PrimOk P G f (cloneKP e sz) := ⟨h.known, (fun args r hr => (cloneK_sound h hr).1), (fun k e0 sz0 xs rest r hr e' he => by have := (cloneK_sound (G := noG) h hr).2; cases this), fun b k xs r hr => by first | (cases hr; done) | (unfold cloneKP at hr; (first | (cases hr; done) | (split at hr <;> cases hr; done) | (cases xs <;> cases hr; done) | (simp at hr; done)))⟩
end Ovi

/-! Clz -/
namespace Ovi
open Go Go.Proofs Go.RowKit Go.Lib Go.Shelf
section
variable {P : Program} {ρ : Ren}
set_option maxHeartbeats 2000000 in
set_option maxRecDepth 100000 in
/-- slices.Clone of no elements, whatever the address -/
theorem cloneE_zero (L : SlLaysE0.n41 P ρ) (i0 : TypeInfo) (z : Value) (size bytes : Nat) (hi : P.info? (ρ.t 23) = some i0) (hz0 : i0.zero = some z) (hz1 : i0.size = size) (hz2 : i0.bytes = bytes) (hzs : z.cells.size = size) (hsz : 0 < size)
    (z23 : ∀ w, (Go.sizeOf (ρ.t 23)).run P w = .ok size w) (a : Addr) (c : Nat) (w : World) :
    Calls P (ρ.f 41) #[.slice (some a) 0 c] w fun e w' => ∃ v', e = .returned v' ∧ w'.ownsRow w.heap.size (ρ.t 23) size v' 0 [] ∧ Below w.heap.size w w' := by
  have mixed := L.mixed; have t4 := L.t4; have a4 := L.a4; have z4 := L.z4; have v4 := L.v4; have t22 := L.t22; have a22 := L.a22; have z22 := L.z22; have v22 := L.v22
  have q22 : ∀ (w : World) (a : Option Addr) (n c n' c' : Nat), (Go.binOp .eql (ρ.t 22) (.slice a n c) (.slice none n' c')).run P w = .ok (.bool a.isNone) w := fun w a n c n' c' => Lib.run_eql_slice_nil w _ _ a n c n' c' L.t22
  have u22 : ∀ w, Sem.run P (underlying (ρ.t 22)) w = .ok (TypeDesc.slice (ρ.t 23)) w := run_underlying t22
  obtain ⟨_, _, FG⟩ := L.f41
  go_enter FG, SlBodyN.n41_ntmps ρ
  go_wp2_with (at_builtin; refine wpList_append_own _ rfl _ _ (ρ.t 22) rfl w.heap.size (ρ.t 23) i0 z size bytes t22 hi hz0 hz1 hz2 hzs hsz _ _ _ rfl (World.ownsRow_made w #[] 0 (Nat.le_refl _) (Nat.zero_le _) (by simp)) a 0 c [] rfl (by simp) (by intro j u hj; simp at hj) (by intro u hu; cases hu) (by unfold maxLen; omega) (by omega) (by simp) ?_)
  intro v' w1 hown hgrow hnil
  go_wp2
  go_ret
  refine ⟨v', rfl, by simpa using hown, ?_⟩
  exact ((Below.refl _ w).alloc (Nat.le_refl _) _).grown hgrow (by simp) (by intro k hk; simp [Value.ownBlock] at hk; omega)
end
/-- slices.Clone of a row, be it empty or not -/
structure CloneZC (P : Program) (f : FuncId) (e sz : Nat) : Prop where
  base : CloneKC P f e sz
  nil : ∀ (n c : Nat) (w : World), Calls P f #[.slice none n c] w fun ex w' => ex = .returned (.slice none 0 0) ∧ w' = w
  zero : ∀ (a : Addr) (c : Nat) (w : World), Calls P f #[.slice (some a) 0 c] w fun ex w' => ∃ v', ex = .returned v' ∧ w'.ownsRow w.heap.size e sz v' 0 [] ∧ Below w.heap.size w w'
def cloneZP (e sz : Nat) : Args → Option Res
  | [.d (.list sz' xs)] => cond (Nat.beq sz' sz && Nat.ble xs.length 1099511627776) (some [(false, [.row e sz xs])]) none
  | _ => none
theorem row_empty {w' : World} {S T : Nat → Prop} {B e sz : Nat} {v : Value} (h : w'.ownsRow B e sz v 0 []) (hS : ∀ k, S k → k < B) : ∃ mo, rowC w' S T B mo e sz [] v := by
  obtain ⟨_, h⟩ := h
  rcases h with ⟨rfl, _⟩ | ⟨g, cap, cur, rfl, hb, hg, h1, h2, h3, h4⟩
  · exact ⟨none, fun i x h => by simp at h, ⟨rfl, none, rfl⟩, rfl⟩
  · exact ⟨some g, fun i x h => by simp at h, ⟨cap, cur, rfl, hg, h1, h2, h3⟩, hb, fun hh => by have := hS g hh; omega, cur, hg, by simp, fun i c x h => by simp [cellD] at h⟩
theorem one_row {w' : World} {S T : Nat → Prop} {B e sz : Nat} {mo : Option Nat} {xs : Ovi.Rows} {v : Value} (h : rowC w' S T B mo e sz xs v) : resC w' S T B (fun _ _ => mo) v [(false, [.row e sz xs])] := by
  refine ⟨⟨[v], rfl, rfl, fun i x hx => ?_⟩, fun i j i' j' b h1 h2 _ _ => ?_⟩
  · cases i with
    | zero => cases hx; exact ⟨v, rfl, _, rfl, h⟩
    | succ i => simp at hx
  · have key : ∀ i j, isRow (leafAt [(false, [.row e sz xs])] i j) = true → i = 0 ∧ j = 0 := by
      intro i j hij
      cases i with
      | zero =>
        cases j with
        | zero => exact ⟨rfl, rfl⟩
        | succ j => simp [leafAt, isRow] at hij
      | succ i => simp [leafAt, isRow] at hij
    obtain ⟨rfl, rfl⟩ := key i j h1
    obtain ⟨rfl, rfl⟩ := key i' j' h2
    exact ⟨rfl, rfl⟩
theorem cloneZ_sound {P : Program} {G : Gd} {f : FuncId} {e sz : Nat} (h : CloneZC P f e sz) {args : Args} {r : Res} (hr : cloneZP e sz args = some r) : PlainC P G f args r ∧ isRaw args = false := by
  unfold cloneZP at hr
  split at hr
  · rename_i sz' xs
    cases hb : (Nat.beq sz' sz && Nat.ble xs.length 1099511627776) with
    | false => rw [hb] at hr; cases hr
    | true =>
      rw [hb] at hr
      cases hr
      by_cases hx : xs = []
      · subst hx
        refine ⟨?_, rfl⟩
        intro w S T vs hS hT hl _
        obtain ⟨u, hu, hrd⟩ := hl.2 0 _ rfl
        have hvs : vs = #[u] := by
          have h1 : vs.size = 1 := hl.1
          apply Array.ext_getElem?
          intro i
          cases i with
          | zero => rw [hu]; rfl
          | succ i => rw [Array.getElem?_eq_none (by omega), Array.getElem?_eq_none (by simp)]
        subst hvs
        have hrd : RD w S T u (.list sz' []) := hrd
        cases hrd with
        | list A cap _ _ g h1 h3 h4 h5 h6 =>
          cases A with
          | none =>
            refine (h.nil 0 cap w).mono fun ex w' ⟨k1, k2⟩ => ?_
            subst k1 k2
            exact ⟨_, S, fun _ _ => none, rfl, Below.refl _ _, fun _ h => h, fun _ h => .inl h, one_row ⟨fun i x h => by simp at h, ⟨rfl, none, rfl⟩, rfl⟩, frC.none rfl⟩
          | some a =>
            refine (h.zero a cap w).mono fun ex w' ⟨v', k1, k2, k3⟩ => ?_
            subst k1
            obtain ⟨mo, hm⟩ := row_empty (T := T) k2 hS
            exact ⟨_, S, fun _ _ => mo, rfl, k3, fun _ h => h, fun _ h => .inl h, one_row hm, frC.none rfl⟩
      · refine cloneK_sound h.base ?_
        rw [Bool.and_eq_true] at hb
        show cond (Nat.beq sz' sz && (Nat.ble 1 xs.length && Nat.ble xs.length 1099511627776)) (some [(false, [RL.row e sz xs])] : Option Res) none = _
        rw [hb.1, hb.2, show Nat.ble 1 xs.length = true from Nat.ble_eq_true_of_le (List.length_pos_iff.2 hx)]
        rfl
  · cases hr
theorem CloneZC.ok {P : Program} {G : Gd} {f : FuncId} {e sz : Nat} (h : CloneZC P f e sz) : PrimOk P G f (cloneZP e sz) := ⟨h.base.known, (fun args r hr => (cloneZ_sound h hr).1), (fun k e0 sz0 xs rest r hr e' he => by have := (cloneZ_sound (G := noG) h hr).2; cases this), fun b k xs r hr => by first | (cases hr; done) | (unfold cloneZP at hr; (first | (cases hr; done) | (split at hr <;> cases hr; done) | (cases xs <;> cases hr; done) | (simp at hr; done)))⟩
end Ovi

/-! Rsp -/
namespace Ovi
open Go Go.Proofs Go.RowKit Go.Sort Go.Lib

/-! ### rows sorted, each once (a function of the program, on a row of the caller's); slices.Repeat of one integer -/
/-- what rowsSet leaves -/
def RsPost (w : World) (S : Nat → Prop) (blk cap : Nat) (d : Array (HdL w S)) (e : Ending) (w' : World) : Prop :=
  ∃ (d1 dk : Array (HdL w S)) (n q kk : Nat) (os : Array Obj), e = .returned (.slice (some ⟨blk, 0, none⟩) kk cap) ∧ d1.size = d.size ∧ dk.size = d.size ∧ w' = sortWorld encH (sortWorld encH w blk 0 n d1 os) blk 0 q dk #[] ∧ kk ≤ d.size ∧ (dk.toList.take kk).map lstH = Lib.compact (sortLists (d.toList.map lstH))
structure RsC (P : Program) (f : FuncId) : Prop where
  known : Known P f
  run : ∀ (w : World) (S : Nat → Prop) (blk cap : Nat) (d : Array (HdL w S)), (∀ k, S k → k < w.heap.size) → ¬ S blk → Holds encH w blk 0 d → blk < w.heap.size → d.size < 4611686018427387904 → d.size ≤ cap →
    Calls P f #[.slice (some ⟨blk, 0, none⟩) d.size cap] w (RsPost w S blk cap d)
  nil : ∀ (A : Option Addr) (w : World), Calls P f #[.slice A 0 0] w fun e w' => e = .returned (.slice A 0 0) ∧ Below w.heap.size w w'
def rowsArg : Args → Option (Nat × BL)
  | [.var 0 0, .d (.int .i64 e), .d (.list 1 xs)] => (lists xs).bind fun l => cond (Nat.ble l.length 1099511627776 && l.all fun z => Nat.ble z.length 1099511627776) (some (e.toNat, l)) none
  | _ => none
def rowsSetP (args : Args) : Option Res := (rowsArg args).bind fun p => some [(false, [.row p.1 1 (LL (Lib.compact (sortLists p.2)))]), (true, [])]
theorem rowsArg_isRaw {args : Args} {p : Nat × BL} (h : rowsArg args = some p) : ∃ e xs, args = [.var 0 0, .d (.int .i64 e), .d (.list 1 xs)] := by
  unfold rowsArg at h
  split at h
  · exact ⟨_, _, rfl⟩
  · cases h
theorem rowsArg_some {k : IntKind} {e : Int} {sz : Nat} {xs : Rows} {rest : Args} {p : Nat × BL} (h : rowsArg (rawTag :: .d (.int k e) :: .d (.list sz xs) :: rest) = some p) : sz = 1 ∧ rest = [] ∧ xs = LL p.2 ∧ p.1 = e.toNat ∧ p.2.length ≤ 1099511627776 ∧ ∀ z ∈ p.2, z.length ≤ 1099511627776 := by
  obtain ⟨e1, xs1, heq⟩ := rowsArg_isRaw h
  simp only [rawTag, List.cons.injEq, AV.d.injEq, D.int.injEq, D.list.injEq, true_and] at heq
  obtain ⟨⟨rfl, rfl⟩, ⟨rfl, rfl⟩, rfl⟩ := heq
  simp only [rowsArg, rawTag] at h
  obtain ⟨l, hl, h⟩ := Option.bind_eq_some_iff.1 h
  cases hb : (Nat.ble l.length 1099511627776 && l.all fun z => Nat.ble z.length 1099511627776) with
  | false => rw [hb] at h; cases h
  | true =>
    rw [hb] at h
    cases h
    rw [Bool.and_eq_true, List.all_eq_true] at hb
    exact ⟨rfl, rfl, lists_some hl, rfl, Nat.le_of_ble_eq_true hb.1, fun z hz => Nat.le_of_ble_eq_true (hb.2 z hz)⟩
theorem heapS_size {w : World} {α : Type} [Inhabited α] {enc : α → Value} {b n : Nat} {d : Array α} {os : Array Obj} : w.heap.size ≤ (sortWorld enc w b 0 n d os).heap.size := by
  simp only [sortWorld, grow, putRow, mapBlock, Sort.ahead, Array.size_append, Array.size_modify]
  omega
theorem rowsSet_sound {P : Program} {G : Gd} {fs : FuncId} (h : RsC P fs) {args : Args} {r : Res} (hr : rowsSetP args = some r) : PlainC P G fs args r ∧ ∀ k e sz xs rest, args = rawTag :: .d (.int k e) :: .d (.list sz xs) :: rest → ∀ e' : Nat, e = e' → RawC P fs e' sz xs rest r := by
  obtain ⟨⟨e0, l⟩, hra, hr⟩ := Option.bind_eq_some_iff.1 hr
  cases hr
  refine ⟨?_, fun k e sz xs rest hargs e' he => ?_⟩
  · obtain ⟨_, _, rfl⟩ := rowsArg_isRaw hra
    exact plain_raw'
  · subst hargs
    obtain ⟨rfl, rfl, rfl, h4, hlen, hlz⟩ := rowsArg_some hra
    simp only at h4 hlen hlz
    subst he h4
    refine Or.inl fun w S T mo u vs hS hT hrow hl => ?_
    obtain rfl := leaves_nil hl
    simp only [Array.append_empty, Int.toNat_natCast]
    have hsl : (Lib.compact (sortLists l)).length ≤ l.length := by have := compactL_len (sortLists l); rw [sortLists_len] at this; exact this
    cases mo with
    | none =>
      obtain ⟨_, ⟨_, A, rfl⟩, hn⟩ := hrow
      have hz : l = [] := by simpa [LL] using hn
      subst hz
      refine (h.nil A w).mono fun ex w' ⟨h1, h2⟩ => ⟨_, h1, h2, fun _ => ?_⟩
      exact ⟨fun i x hx => by simp [LL, sortLists, Lib.compact, Lib.compactUpTo] at hx, ⟨by simp [LL, sortLists, Lib.compact, Lib.compactUpTo], A, rfl⟩, by simp [LL, sortLists, Lib.compact, Lib.compactUpTo]⟩
    | some b =>
      obtain ⟨_, ⟨cap, cur, rfl, hc, h1, h2, h3⟩, _, hnS, cur', hc', h5, h6⟩ := hrow
      rw [LL_len] at *
      rw [hc] at hc'
      cases hc'
      have hblk : b < w.heap.size := lt_of_blk hc
      obtain ⟨dl, hd1, hdl⟩ := mkH (w := w) (S := S) (cur := cur) l 0 fun i zs hz => by
        obtain ⟨_, v, hv, hrd⟩ := h6 i 0 _ (LL_at hz)
        rw [Nat.mul_one, Nat.add_zero] at hv
        exact ⟨v, by rw [Nat.zero_add]; exact hv, RD.ri hrd, hlz _ (List.mem_of_getElem? hz)⟩
      obtain ⟨d, rfl⟩ : ∃ d : Array (HdL w S), dl = d.toList := ⟨dl.toArray, rfl⟩
      have hd2 : Holds encH w b 0 d := by
        intro j hj
        rw [getElem!_pos d j hj]
        refine ⟨?_, by simp [World.frozen?, hc]⟩
        simp only [World.cell?, hc, Option.isSome_none, Bool.false_eq_true, if_false]
        exact hdl j _ (by simp [hj])
      have hds : d.size = l.length := by rw [← hd1]; simp
      have hcall := h.run w S b cap d hS hnS hd2 hblk (by omega) (by have h1 : l.length ≤ cap := h1; omega)
      rw [hds] at hcall
      refine hcall.mono fun ex w' ⟨d1, dk, n, q, kk, os, k1, k0, k2, k3, k4, k5⟩ => ?_
      rw [hd1] at k5
      subst k3
      have hnew1 := heapS (enc := encH) (n := n) (os := os) d1 hc
      have hnew := heapS (enc := encH) (n := q) (os := #[]) dk hnew1
      have hcsz : (putCells encH 0 dk (putCells encH 0 d1 cur)).size = cur.size := by simp [putCells]
      have hsz1 : w.heap.size ≤ (sortWorld encH w b 0 n d1 os).heap.size := heapS_size
      have hsz2 : (sortWorld encH w b 0 n d1 os).heap.size ≤ (sortWorld encH (sortWorld encH w b 0 n d1 os) b 0 q dk #[]).heap.size := heapS_size
      have hst1 := stabS (enc := encH) (n := n) (os := os) d1 hS hnS
      have hst2 := stabS (enc := encH) (w := sortWorld encH w b 0 n d1 os) (n := q) (os := #[]) dk (fun k hk => Nat.lt_of_lt_of_le (hS k hk) hsz1) hnS
      have hkk : kk = (Lib.compact (sortLists l)).length := by
        rw [← k5]
        simp only [List.length_map, List.length_take, Array.length_toList]
        omega
      have h5' : l.length * 1 ≤ cur.size := h5
      refine ⟨_, k1, ⟨cur, _, hc, hcsz, rfl, rfl, rfl, by simpa [setBlk] using Nat.le_trans hsz1 hsz2, fun k hk => ?_⟩, fun _ => ⟨LL_rows _, ?_, Nat.zero_le _, hnS, _, hnew, by rw [LL_len, hcsz]; omega, fun i c x hx => ?_⟩⟩
      · have hk : k < w.heap.size := by simpa using hk
        by_cases hkb : k = b
        · subst hkb
          rw [setBlk_at hblk, hnew]
        · rw [setBlk_ne hkb, heapO _ (Nat.lt_of_lt_of_le hk hsz1) hkb]
          exact heapO _ hk hkb
      · rw [LL_len, hkk]
        have h1 : l.length ≤ cap := h1
        exact ⟨cap, _, rfl, hnew, by omega, h2, by rw [hcsz]; omega⟩
      · obtain ⟨rfl, zs, hz, rfl⟩ := LL_cell hx
        have hi0 := (List.getElem?_eq_some_iff.1 hz).1
        have hi : i < dk.size := by omega
        refine ⟨rfl, encH dk[i], ?_, ?_⟩
        · have hic : i < (putCells encH 0 d1 cur).size := by simp only [putCells, Array.size_mapIdx]; omega
          rw [Nat.mul_one, Nat.add_zero]
          conv => lhs; rw [putCells]
          rw [Array.getElem?_mapIdx, Array.getElem?_eq_getElem hic]
          simp [hi]
        · have : lstH dk[i] = zs := by
            rw [← k5, List.getElem?_map, List.getElem?_take_of_lt (by omega)] at hz
            simpa [hi] using hz
          rw [← this]
          exact RI.rd (RI.stab dk[i].h (hst1.trans hst2))
theorem RsC.ok {P : Program} {G : Gd} {f : FuncId} (h : RsC P f) : PrimOk P G f rowsSetP := ⟨h.known, (fun args r hr => (rowsSet_sound h hr).1), (fun k e sz xs rest r hr e' he => (rowsSet_sound (G := noG) h hr).2 k e sz xs rest rfl e' he), fun b k xs r hr => by first | (cases hr; done) | (unfold rowsSetP at hr; (first | (cases hr; done) | (split at hr <;> cases hr; done) | (cases xs <;> cases hr; done) | (simp at hr; done)))⟩
/-- what is shown of slices.Repeat: five times ten -/
def ten5 : Array Value := #[.int .i64 10, .int .i64 10, .int .i64 10, .int .i64 10, .int .i64 10]
structure RepC (P : Program) (f : FuncId) (e : Nat) : Prop where
  known : Known P f
  run : ∀ (b o c : Nat) (w : World), w.cell? ⟨b, o, none⟩ = some (.int .i64 10) → b < w.heap.size →
    Calls P f #[.slice (some ⟨b, o, none⟩) 1 c, .int .i64 5] w fun ex w' => ex = .returned (.slice (some ⟨w.heap.size, 0, none⟩) 5 5) ∧ ∃ q, w' = (w.alloc (.cells ten5 e (0, 0))).drewN q
def rep5P (e : Nat) : Args → Option Res
  | [.d (.list 1 [[.int .i64 z]]), .d (.int .i64 n)] => cond (decide (z = 10) && decide (n = 5)) (some [(false, [.row e 1 (I1 [10, 10, 10, 10, 10])])]) none
  | _ => none
theorem rep_sound {P : Program} {G : Gd} {f : FuncId} {e : Nat} (h : RepC P f e) {args : Args} {r : Res} (hr : rep5P e args = some r) : PlainC P G f args r ∧ isRaw args = false := by
  unfold rep5P at hr
  split at hr
  · rename_i z n
    cases hb : (decide (z = 10) && decide (n = 5)) with
    | false => rw [hb] at hr; cases hr
    | true =>
      rw [hb] at hr
      cases hr
      rw [Bool.and_eq_true, decide_eq_true_eq, decide_eq_true_eq] at hb
      obtain ⟨rfl, rfl⟩ := hb
      refine ⟨?_, rfl⟩
      intro w S T vs hS hT hl _
      obtain ⟨u, v, rfl, hu, hv⟩ := jn_args hl
      cases hv
      have hri : RI w S u [10] := RD.ri hu
      obtain ⟨A, c, rfl, hc, hx⟩ := hri
      obtain ⟨ad, rfl, hSad, hcell⟩ := hx 0 10 rfl
      obtain ⟨b, o, spot⟩ := ad
      have hspot : spot = none := by simpa [Addr.add] using World.cell?_spot hcell
      subst hspot
      have hcell' : w.cell? ⟨b, o, none⟩ = some (.int .i64 10) := by rw [add_at] at hcell; exact hcell
      refine (h.run b o c w hcell' (hS b hSad)).mono fun ex w' ⟨k1, q, k2⟩ => ?_
      subst k2
      have hg : ((w.alloc (.cells ten5 e (0, 0))).drewN q).heap[w.heap.size]? = some (.cells ten5 e (0, 0)) := by
        show (w.heap.push _)[w.heap.size]? = _
        simp
      have hrow : rowC ((w.alloc (.cells ten5 e (0, 0))).drewN q) S T w.heap.size (some w.heap.size) e 1 (I1 [10, 10, 10, 10, 10]) (.slice (some ⟨w.heap.size, 0, none⟩) 5 5) := by
        refine ⟨I1_rows _, ⟨5, ten5, rfl, hg, by simp [I1], by unfold maxLen; omega, rfl⟩, Nat.le_refl _, fun h => Nat.lt_irrefl _ (hS _ h), ten5, hg, by simp [I1, ten5], fun i c' x hx => ?_⟩
        obtain ⟨rfl, z, hz, rfl⟩ := I1_cell hx
        refine ⟨rfl, .int .i64 z, ?_, .int _ _⟩
        have hi := (List.getElem?_eq_some_iff.1 hz).1
        simp only [List.length_cons, List.length_nil] at hi
        rw [Nat.mul_one, Nat.add_zero]
        match i, hi, hz with
        | 0, _, hz => cases hz; rfl
        | 1, _, hz => cases hz; rfl
        | 2, _, hz => cases hz; rfl
        | 3, _, hz => cases hz; rfl
        | 4, _, hz => cases hz; rfl
        | i + 5, hi, _ => omega
      have hbel : Below w.heap.size w ((w.alloc (.cells ten5 e (0, 0))).drewN q) := by
        have := (Below.refl w.heap.size w).alloc (Nat.le_refl _) (.cells ten5 e (0, 0))
        exact ⟨this.os, this.tape, this.output, this.size, this.block⟩
      refine ⟨_, S, fun _ _ => some w.heap.size, k1, hbel, fun _ h => h, fun _ h => .inl h, ⟨⟨[_], rfl, rfl, fun i x hx => ?_⟩, fun i j i' j' b h1 h2 _ _ => ?_⟩, frC.none rfl⟩
      · cases i with
        | zero => cases hx; exact ⟨_, rfl, _, rfl, hrow⟩
        | succ i => simp at hx
      · have key : ∀ i j, isRow (leafAt [(false, [.row e 1 (I1 [10, 10, 10, 10, 10])])] i j) = true → i = 0 ∧ j = 0 := by
          intro i j hij
          cases i with
          | zero =>
            cases j with
            | zero => exact ⟨rfl, rfl⟩
            | succ j => simp [leafAt, isRow] at hij
          | succ i => simp [leafAt, isRow] at hij
        obtain ⟨rfl, rfl⟩ := key i j h1
        obtain ⟨rfl, rfl⟩ := key i' j' h2
        exact ⟨rfl, rfl⟩
  · cases hr
theorem RepC.ok {P : Program} {G : Gd} {f : FuncId} {e : Nat} (h : RepC P f e) : PrimOk P G f (rep5P e) := ⟨h.known, (fun args r hr => (rep_sound h hr).1), (fun k e0 sz xs rest r hr e' he => by have := (rep_sound (G := noG) h hr).2; cases this), fun b k xs r hr => by first | (cases hr; done) | (unfold rep5P at hr; (first | (cases hr; done) | (split at hr <;> cases hr; done) | (cases xs <;> cases hr; done) | (simp at hr; done)))⟩
end Ovi

/-! Srg -/
namespace Ovi
open Go Go.Proofs Go.RowKit Go.Sort Go.Lib
/-! ### slices.SortFunc on rows of integer lists whose lists are one's own: what an element holds goes with it -/
theorem perm_idx {α : Type} {l' l : List α} (h : l'.Perm l) : ∃ π : Nat → Nat, (∀ i i', i < l'.length → i' < l'.length → π i = π i' → i = i') ∧ ∀ i, i < l'.length → l'[i]? = l[π i]? ∧ π i < l.length := by
  induction h with
  | nil => exact ⟨fun i => i, fun i i' h => by simp at h, fun i h => by simp at h⟩
  | cons x h ih =>
    obtain ⟨π, h1, h2⟩ := ih
    refine ⟨fun i => match i with | 0 => 0 | i + 1 => π i + 1, fun i i' hi hi' he => ?_, fun i hi => ?_⟩
    · match i, i' with
      | 0, 0 => rfl
      | 0, i' + 1 => simp at he
      | i + 1, 0 => simp at he
      | i + 1, i' + 1 =>
        simp only [Nat.add_right_cancel_iff] at he
        rw [h1 i i' (by simpa using hi) (by simpa using hi') he]
    · match i with
      | 0 => simp
      | i + 1 =>
        have := h2 i (by simpa using hi)
        simpa using this
  | swap x y l =>
    refine ⟨fun i => match i with | 0 => 1 | 1 => 0 | i + 2 => i + 2, fun i i' hi hi' he => ?_, fun i hi => ?_⟩
    · match i, i' with
      | 0, 0 => rfl
      | 1, 1 => rfl
      | 0, 1 => simp at he
      | 1, 0 => simp at he
      | 0, i' + 2 => simp at he
      | 1, i' + 2 => simp at he
      | i + 2, 0 => simp at he
      | i + 2, 1 => simp at he
      | i + 2, i' + 2 => simpa using he
    · match i with
      | 0 => simp
      | 1 => simp
      | i + 2 => exact ⟨rfl, by simpa using hi⟩
  | trans h1 h2 ih1 ih2 =>
    obtain ⟨π, a1, a2⟩ := ih1
    obtain ⟨ρ, b1, b2⟩ := ih2
    refine ⟨fun i => ρ (π i), fun i i' hi hi' he => a1 i i' hi hi' (b1 _ _ (a2 i hi).2 (a2 i' hi').2 he), fun i hi => ?_⟩
    obtain ⟨e1, e2⟩ := a2 i hi
    obtain ⟨e3, e4⟩ := b2 _ e2
    exact ⟨e1.trans e3, e4⟩
def sortGP (g : Nat) (args : Args) : Option Res := (sortFArg g args).bind fun p => some [(false, [.frow p.1 1 1 (LL (sortLists p.2))])]
theorem sortG_sound {P : Program} {G : Gd} {fs g : FuncId} (h : SortFC P fs g) {args : Args} {r : Res} (hr : sortGP g args = some r) : PlainC P G fs args r ∧ ∀ k e sz xs rest, args = rawTag :: .d (.int k e) :: .d (.list sz xs) :: rest → ∀ e' : Nat, e = e' → RawC P fs e' sz xs rest r := by
  obtain ⟨⟨e0, l⟩, hra, hr⟩ := Option.bind_eq_some_iff.1 hr
  cases hr
  refine ⟨?_, fun k e sz xs rest hargs e' he => ?_⟩
  · obtain ⟨_, _, rfl⟩ := sortFArg_isRaw hra
    exact plain_raw'
  · subst hargs
    obtain ⟨rfl, rfl, rfl, h4, hlen, hlz⟩ := sortFArg_some hra
    simp only at h4 hlen hlz
    subst he h4
    refine Or.inl fun w S T mo u vs hS hT hrow hl => ?_
    have hvs : vs = #[.func (.func g) #[] #[]] := by
      obtain ⟨u0, hu0, hrd⟩ := hl.2 0 _ rfl
      have hrd : RD w S T u0 (.fn g []) := hrd
      have h1 : vs.size = 1 := hl.1
      have h2 : u0 = .func (.func g) #[] #[] := by
        generalize hc : ([] : Rows) = CS at hrd
        cases hrd with
        | fn f vs' caps g' k1 k4 k5 =>
          subst hc
          rw [Array.eq_empty_of_size_eq_zero k1]
      subst h2
      apply Array.ext_getElem?
      intro i
      cases i with
      | zero => rw [hu0]; rfl
      | succ i => rw [Array.getElem?_eq_none (by omega), Array.getElem?_eq_none (by simp)]
    subst hvs
    simp only [Int.toNat_natCast]
    have hsl := sortLists_len l
    cases mo with
    | none =>
      obtain ⟨_, ⟨_, A, rfl⟩, hn⟩ := hrow
      have hz : l = [] := by simpa [LL] using hn
      subst hz
      refine (h.nil A w).mono fun ex w' ⟨h1, h2⟩ => ⟨_, h1, h2, fun _ => ⟨⟨by simp [LL, sortLists], rfl, ?_⟩, fun b cur cur' hb => by cases hb⟩⟩
      refine ⟨fun i x hx => by simp [LL, sortLists] at hx, ⟨by simp [LL, sortLists], A, rfl⟩, by simp [LL, sortLists]⟩
    | some b =>
      obtain ⟨_, ⟨cap, cur, rfl, hc, h1, h2, h3⟩, _, hnS, cur', hc', h5, h6⟩ := hrow
      rw [LL_len] at *
      rw [hc] at hc'
      cases hc'
      have hblk : b < w.heap.size := lt_of_blk hc
      obtain ⟨dl, hd1, hdl⟩ := mkH (w := w) (S := S) (cur := cur) l 0 fun i zs hz => by
        obtain ⟨_, v, hv, hrd⟩ := h6 i 0 _ (LL_at hz)
        rw [Nat.mul_one, Nat.add_zero] at hv
        exact ⟨v, by rw [Nat.zero_add]; exact hv, RD.ri hrd, hlz _ (List.mem_of_getElem? hz)⟩
      obtain ⟨d, rfl⟩ : ∃ d : Array (HdL w S), dl = d.toList := ⟨dl.toArray, rfl⟩
      have hd2 : Holds encH w b 0 d := by
        intro j hj
        rw [getElem!_pos d j hj]
        refine ⟨?_, by simp [World.frozen?, hc]⟩
        simp only [World.cell?, hc, Option.isSome_none, Bool.false_eq_true, if_false]
        exact hdl j _ (by simp [hj])
      have hds : d.size = l.length := by rw [← hd1]; simp
      have hcall := h.run w S b cap d hS hnS hd2 hblk (by omega)
      rw [hds] at hcall
      refine hcall.mono fun ex w' ⟨k1, d', n, os, ⟨p1, _, p3⟩, k3, k4⟩ => ?_
      subst k4
      have hds' : d'.size = l.length := by rw [p1, hds]
      have hext : ∀ (a : Array (HdL w S)) (m : Nat), a.size = m → a.extract 0 m = a := fun a m hm => by subst hm; exact Array.extract_size
      rw [hext d' _ hds', hext d _ hds] at p3
      have hys : d'.toList.map lstH = sortLists l := by
        refine srt_unique (by rw [← hd1]; exact p3.map _) ?_
        rw [List.pairwise_map, List.pairwise_iff_getElem]
        intro i j hi hj hij
        have hi' : i < d'.size := by simpa using hi
        have hj' : j < d'.size := by simpa using hj
        have := k3 i j (Nat.zero_le _) hij (by omega)
        rw [getElem!_pos d' j hj', getElem!_pos d' i hi'] at this
        exact this
      have hnew := heapS (enc := encH) (n := n) (os := os) d' hc
      have hcsz : (putCells encH 0 d' cur).size = cur.size := by simp [putCells]
      have hst := stabS (enc := encH) (n := n) (os := os) d' hS hnS
      refine ⟨_, k1, ⟨cur, _, hc, hcsz, rfl, rfl, rfl, by simp [sortWorld, grow, putRow, mapBlock, Sort.ahead, setBlk], fun k hk => ?_⟩, fun _ => ⟨⟨by rw [LL_len, LL_len, hsl], rfl, LL_rows _, ?_, Nat.zero_le _, hnS, _, hnew, by rw [LL_len, hsl, hcsz]; omega, fun i c x hx => ?_⟩, ?_⟩⟩
      · have hk : k < w.heap.size := by simpa using hk
        by_cases hkb : k = b
        · subst hkb
          rw [setBlk_at hblk, hnew]
        · rw [setBlk_ne hkb]
          exact heapO _ hk hkb
      · rw [LL_len, hsl]
        exact ⟨cap, _, rfl, hnew, h1, h2, by rw [hcsz]; omega⟩
      · obtain ⟨rfl, zs, hz, rfl⟩ := LL_cell hx
        have hi : i < d'.size := by
          have := (List.getElem?_eq_some_iff.1 hz).1
          omega
        refine ⟨rfl, encH d'[i], ?_, ?_⟩
        · have h5' : l.length * 1 ≤ cur.size := h5
          have hic : i < cur.size := by omega
          simp only [Nat.mul_one, Nat.add_zero, putCells, Array.getElem?_mapIdx]
          rw [Array.getElem?_eq_getElem hic]
          simp [hi]
        · have : lstH d'[i] = zs := by
            rw [← hys] at hz
            simpa [hi] using hz
          rw [← this]
          exact RI.rd (RI.stab d'[i].h hst)
      · intro b1 c1 c2 hb1 hc1 hc2
        cases hb1
        rw [hc] at hc1
        cases hc1
        rw [hnew] at hc2
        cases hc2
        obtain ⟨π, q1, q2⟩ := perm_idx p3
        rw [LL_len, hsl]
        refine ⟨π, fun i i' hi hi' => q1 i i' (by simpa [hds'] using hi) (by simpa [hds'] using hi'), fun i hi c x hx => ?_⟩
        obtain ⟨rfl, zs, hz, rfl⟩ := LL_cell hx
        have hi2 : i < d'.size := by omega
        obtain ⟨e1, e2⟩ := q2 i (by simpa using hi2)
        have hp2 : π i < d.size := by simpa using e2
        have e3 : d'[i] = d[π i] := by simpa [hi2, hp2] using e1
        have e4 : lstH d'[i] = zs := by
          rw [← hys] at hz
          simpa [hi2] using hz
        have e5 : l[π i]? = some zs := by
          rw [← hd1, List.getElem?_map, Array.getElem?_toList, Array.getElem?_eq_getElem hp2, Option.map_some, ← e3, e4]
        refine ⟨LL_at e5, .inl ?_⟩
        have g1 := hdl (π i) d[π i] (by simp [hp2])
        have h5' : l.length * 1 ≤ cur.size := h5
        have hic : i < cur.size := by omega
        rw [Nat.zero_add] at g1
        simp only [Nat.mul_one, Nat.add_zero, putCells, Array.getElem?_mapIdx]
        rw [Array.getElem?_eq_getElem hic, g1]
        simp [hi2, e3]
theorem SortFC.okG {P : Program} {G : Gd} {f g : FuncId} (h : SortFC P f g) : PrimOk P G f (sortGP g) := ⟨h.known, (fun args r hr => (sortG_sound h hr).1), (fun k e sz xs rest r hr e' he => (sortG_sound (G := noG) h hr).2 k e sz xs rest rfl e' he), fun b k xs r hr => by first | (cases hr; done) | (unfold sortGP at hr; (first | (cases hr; done) | (split at hr <;> cases hr; done) | (cases xs <;> cases hr; done) | (simp at hr; done)))⟩
end Ovi

/-! Cmg -/
namespace Ovi
open Go Go.Proofs Go.RowKit Go.Sort Go.Lib
/-! ### slices.CompactFunc on rows of integer lists whose lists are one's own -/
def compGP (g : Nat) (args : Args) : Option Res := (sortFArg g args).bind fun p => cond (decide (Lib.compact p.2).Nodup) (some [(false, [.frow p.1 1 1 (LL (Lib.compact p.2))]), (true, [])]) none
/-- beyond CompFC: what is kept are elements of the row, or empty -/
structure CompFI (P : Program) (f g : FuncId) : Prop where
  known : Known P f
  run : ∀ (w : World) (S : Nat → Prop) (blk cap : Nat) (d : Array (HdL w S)), (∀ k, S k → k < w.heap.size) → ¬ S blk → Holds encH w blk 0 d → blk < w.heap.size → d.size < 4611686018427387904 → d.size ≤ cap →
    Calls P f #[.slice (some ⟨blk, 0, none⟩) d.size cap, .func (.func g) #[] #[]] w fun e w' => ∃ (dk : Array (HdL w S)) (q kk : Nat), e = .returned (.slice (some ⟨blk, 0, none⟩) kk cap) ∧ dk.size = d.size ∧ w' = putRow encH (Sort.ahead w q) blk 0 dk ∧ kk ≤ d.size ∧ (dk.toList.take kk).map lstH = Lib.compact (d.toList.map lstH) ∧ ∀ h ∈ dk.toList, h ∈ d.toList ∨ lstH h = []
  nil : ∀ (A : Option Addr) (cap : Nat) (w : World), Calls P f #[.slice A 0 cap, .func (.func g) #[] #[]] w fun e w' => e = .returned (.slice A 0 cap) ∧ w' = w
theorem compG_sound {P : Program} {G : Gd} {fs g : FuncId} (h : CompFI P fs g) {args : Args} {r : Res} (hr : compGP g args = some r) : PlainC P G fs args r ∧ ∀ k e sz xs rest, args = rawTag :: .d (.int k e) :: .d (.list sz xs) :: rest → ∀ e' : Nat, e = e' → RawC P fs e' sz xs rest r := by
  obtain ⟨⟨e0, l⟩, hra, hr⟩ := Option.bind_eq_some_iff.1 hr
  cases hnd : decide (Lib.compact l).Nodup with
  | false => simp only [hnd, cond_false] at hr; cases hr
  | true =>
  simp only [hnd, cond_true] at hr
  replace hnd := of_decide_eq_true hnd
  cases hr
  refine ⟨?_, fun k e sz xs rest hargs e' he => ?_⟩
  · obtain ⟨_, _, rfl⟩ := sortFArg_isRaw hra
    exact plain_raw'
  · subst hargs
    obtain ⟨rfl, rfl, rfl, h4, hlen, hlz⟩ := sortFArg_some hra
    simp only at h4 hlen hlz
    subst he h4
    refine Or.inl fun w S T mo u vs hS hT hrow hl => ?_
    obtain rfl := fn_arg hl
    simp only [Int.toNat_natCast]
    have hsl := compactL_len l
    cases mo with
    | none =>
      obtain ⟨_, ⟨_, A, rfl⟩, hn⟩ := hrow
      have hz : l = [] := by simpa [LL] using hn
      subst hz
      refine (h.nil A 0 w).mono fun ex w' ⟨h1, h2⟩ => ⟨_, h1, by subst h2; exact Below.refl _ _, fun _ => ⟨?_, fun b cur cur' hb => by cases hb⟩⟩
      exact ⟨fun i x hx => by simp [LL, Lib.compact, Lib.compactUpTo] at hx, ⟨by simp [LL, Lib.compact, Lib.compactUpTo], A, rfl⟩, by simp [LL, Lib.compact, Lib.compactUpTo]⟩
    | some b =>
      obtain ⟨_, ⟨cap, cur, rfl, hc, h1, h2, h3⟩, _, hnS, cur', hc', h5, h6⟩ := hrow
      rw [LL_len] at *
      rw [hc] at hc'
      cases hc'
      have hblk : b < w.heap.size := lt_of_blk hc
      obtain ⟨dl, hd1, hdl⟩ := mkH (w := w) (S := S) (cur := cur) l 0 fun i zs hz => by
        obtain ⟨_, v, hv, hrd⟩ := h6 i 0 _ (LL_at hz)
        rw [Nat.mul_one, Nat.add_zero] at hv
        exact ⟨v, by rw [Nat.zero_add]; exact hv, RD.ri hrd, hlz _ (List.mem_of_getElem? hz)⟩
      obtain ⟨d, rfl⟩ : ∃ d : Array (HdL w S), dl = d.toList := ⟨dl.toArray, rfl⟩
      have hd2 : Holds encH w b 0 d := by
        intro j hj
        rw [getElem!_pos d j hj]
        refine ⟨?_, by simp [World.frozen?, hc]⟩
        simp only [World.cell?, hc, Option.isSome_none, Bool.false_eq_true, if_false]
        exact hdl j _ (by simp [hj])
      have hds : d.size = l.length := by rw [← hd1]; simp
      have hcall := h.run w S b cap d hS hnS hd2 hblk (by omega) (by have h1 : l.length ≤ cap := h1; omega)
      rw [hds] at hcall
      refine hcall.mono fun ex w' ⟨dk, q, kk, k1, k2, k3, k4, k5, k6⟩ => ?_
      rw [hd1] at k5
      have k3' : w' = sortWorld encH w b 0 q dk #[] := by rw [k3, sortWorld, grow_empty]
      subst k3'
      have hnew := heapS (enc := encH) (n := q) (os := #[]) dk hc
      have hcsz : (putCells encH 0 dk cur).size = cur.size := by simp [putCells]
      have hst := stabS (enc := encH) (n := q) (os := #[]) dk hS hnS
      have hkk : kk = (Lib.compact l).length := by
        rw [← k5]
        simp only [List.length_map, List.length_take, Array.length_toList]
        omega
      have h5' : l.length * 1 ≤ cur.size := h5
      refine ⟨_, k1, ⟨cur, _, hc, hcsz, rfl, rfl, rfl, by simp [sortWorld, grow, putRow, mapBlock, Sort.ahead, setBlk], fun k hk => ?_⟩, fun _ => ⟨⟨LL_rows _, ?_, Nat.zero_le _, hnS, _, hnew, by rw [LL_len, hcsz]; omega, fun i c x hx => ?_⟩, ?_⟩⟩
      · have hk : k < w.heap.size := by simpa using hk
        by_cases hkb : k = b
        · subst hkb
          rw [setBlk_at hblk, hnew]
        · rw [setBlk_ne hkb]
          exact heapO _ hk hkb
      · rw [LL_len, hkk]
        have h1 : l.length ≤ cap := h1
        exact ⟨cap, _, rfl, hnew, by omega, h2, by rw [hcsz]; omega⟩
      · obtain ⟨rfl, zs, hz, rfl⟩ := LL_cell hx
        have hi0 := (List.getElem?_eq_some_iff.1 hz).1
        have hi : i < dk.size := by omega
        refine ⟨rfl, encH dk[i], ?_, ?_⟩
        · have hic : i < cur.size := by omega
          simp only [Nat.mul_one, Nat.add_zero, putCells, Array.getElem?_mapIdx]
          rw [Array.getElem?_eq_getElem hic]
          simp [hi]
        · have : lstH dk[i] = zs := by
            rw [← k5, List.getElem?_map, List.getElem?_take_of_lt (by omega)] at hz
            simpa [hi] using hz
          rw [← this]
          exact RI.rd (RI.stab dk[i].h hst)
      · intro b1 c1 c2 hb1 hc1 hc2
        cases hb1
        rw [hc] at hc1
        cases hc1
        rw [hnew] at hc2
        cases hc2
        have hget : ∀ j (hj : j < kk), (Lib.compact l)[j]? = some (lstH dk[j]) := fun j hj => by
          have hj2 : j < dk.size := by omega
          rw [← k5, List.getElem?_map, List.getElem?_take_of_lt hj]
          simp [hj2]
        have ex1 : ∀ j : Nat, ∃ i : Nat, ∀ hj : j < kk, l[i]? = some (lstH dk[j]) ∧ (d[i]? = some dk[j] ∨ lstH dk[j] = []) := by
          intro j
          by_cases hj : j < kk
          · have hj2 : j < dk.size := by omega
            rcases k6 dk[j] (by simp) with hm | hm
            · obtain ⟨i, hi, e⟩ := List.mem_iff_getElem.1 hm
              have hi' : i < d.size := by simpa using hi
              refine ⟨i, fun _ => ⟨?_, .inl ?_⟩⟩
              · refine (congrArg (fun z : BL => z[i]?) hd1).symm.trans ?_
                show (List.map lstH d.toList)[i]? = _
                rw [List.getElem?_map, List.getElem?_eq_getElem hi, e]
                rfl
              · rw [Array.getElem?_eq_getElem hi']
                simpa using e
            · have hmem : lstH dk[j] ∈ l := (mem_compactL l _).1 (List.mem_of_getElem? (hget j hj))
              obtain ⟨i, hi, e⟩ := List.mem_iff_getElem.1 hmem
              exact ⟨i, fun _ => ⟨by rw [List.getElem?_eq_getElem hi, e], .inr hm⟩⟩
          · exact ⟨0, fun h => absurd h hj⟩
        have ex2 := Classical.axiomOfChoice ex1
        obtain ⟨π, hπ⟩ := ex2
        rw [LL_len, ← hkk]
        refine ⟨π, fun i i' hi hi' he => ?_, fun i hi c x hx => ?_⟩
        · have g1 := (hπ i hi).1
          have g2 := (hπ i' hi').1
          rw [he, g2] at g1
          have g3 := hget i hi
          have g4 := hget i' hi'
          replace g1 := Option.some.inj g1
          rw [g1] at g4
          exact (List.getElem?_inj (i := i) (by rw [← hkk]; exact hi) hnd).1 (g3.trans g4.symm)
        · obtain ⟨rfl, zs, hz, rfl⟩ := LL_cell hx
          rw [hget i hi] at hz
          cases hz
          obtain ⟨q1, q2⟩ := hπ i hi
          refine ⟨LL_at q1, ?_⟩
          rcases q2 with q2 | q2
          · left
            have hpi : π i < d.size := (Array.getElem?_eq_some_iff.1 q2).1
            have g1 := hdl (π i) dk[i] (by rw [← q2]; simp)
            have hi2 : i < dk.size := by omega
            have hic : i < cur.size := by omega
            rw [Nat.zero_add] at g1
            simp only [Nat.mul_one, Nat.add_zero, putCells, Array.getElem?_mapIdx]
            rw [Array.getElem?_eq_getElem hic, g1]
            simp [hi2]
          · right
            rw [q2]
            exact ⟨1, rfl⟩
theorem CompFI.ok {P : Program} {G : Gd} {f g : FuncId} (h : CompFI P f g) : PrimOk P G f (compGP g) := ⟨h.known, (fun args r hr => (compG_sound h hr).1), (fun k e sz xs rest r hr e' he => (compG_sound (G := noG) h hr).2 k e sz xs rest rfl e' he), fun b k xs r hr => by first | (cases hr; done) | (unfold compGP at hr; obtain ⟨q, h1, _⟩ := Option.bind_eq_some_iff.1 hr; obtain ⟨e, xs', h2⟩ := sortFArg_isRaw h1; cases h2)⟩
end Ovi

/-! Rsg -/
namespace Ovi
open Go Go.Proofs Go.RowKit Go.Sort Go.Lib

/-! ### rows sorted, each once, their lists one's own -/
/-- what rowsSet leaves: the elements are the row's own, or empty -/
def RsPostI (w : World) (S : Nat → Prop) (blk cap : Nat) (d : Array (HdL w S)) (e : Ending) (w' : World) : Prop :=
  ∃ (d1 dk : Array (HdL w S)) (n q kk : Nat) (os : Array Obj), e = .returned (.slice (some ⟨blk, 0, none⟩) kk cap) ∧ d1.size = d.size ∧ dk.size = d.size ∧ w' = sortWorld encH (sortWorld encH w blk 0 n d1 os) blk 0 q dk #[] ∧ kk ≤ d.size ∧ (dk.toList.take kk).map lstH = Lib.compact (sortLists (d.toList.map lstH)) ∧ ∀ h ∈ dk.toList, h ∈ d.toList ∨ lstH h = []
structure RsI (P : Program) (f : FuncId) : Prop where
  known : Known P f
  run : ∀ (w : World) (S : Nat → Prop) (blk cap : Nat) (d : Array (HdL w S)), (∀ k, S k → k < w.heap.size) → ¬ S blk → Holds encH w blk 0 d → blk < w.heap.size → d.size < 4611686018427387904 → d.size ≤ cap →
    Calls P f #[.slice (some ⟨blk, 0, none⟩) d.size cap] w (RsPostI w S blk cap d)
  nil : ∀ (A : Option Addr) (w : World), Calls P f #[.slice A 0 0] w fun e w' => e = .returned (.slice A 0 0) ∧ Below w.heap.size w w'
def rowsSetGP (args : Args) : Option Res := (rowsArg args).bind fun p => cond (decide (Lib.compact (sortLists p.2)).Nodup) (some [(false, [.frow p.1 1 1 (LL (Lib.compact (sortLists p.2)))]), (true, [])]) none
theorem rowsSetG_sound {P : Program} {G : Gd} {fs : FuncId} (h : RsI P fs) {args : Args} {r : Res} (hr : rowsSetGP args = some r) : PlainC P G fs args r ∧ ∀ k e sz xs rest, args = rawTag :: .d (.int k e) :: .d (.list sz xs) :: rest → ∀ e' : Nat, e = e' → RawC P fs e' sz xs rest r := by
  obtain ⟨⟨e0, l⟩, hra, hr⟩ := Option.bind_eq_some_iff.1 hr
  cases hnd : decide (Lib.compact (sortLists l)).Nodup with
  | false => simp only [hnd, cond_false] at hr; cases hr
  | true =>
  simp only [hnd, cond_true] at hr
  replace hnd := of_decide_eq_true hnd
  cases hr
  refine ⟨?_, fun k e sz xs rest hargs e' he => ?_⟩
  · obtain ⟨_, _, rfl⟩ := rowsArg_isRaw hra
    exact plain_raw'
  · subst hargs
    obtain ⟨rfl, rfl, rfl, h4, hlen, hlz⟩ := rowsArg_some hra
    simp only at h4 hlen hlz
    subst he h4
    refine Or.inl fun w S T mo u vs hS hT hrow hl => ?_
    obtain rfl := leaves_nil hl
    simp only [Array.append_empty, Int.toNat_natCast]
    have hsl : (Lib.compact (sortLists l)).length ≤ l.length := by have := compactL_len (sortLists l); rw [sortLists_len] at this; exact this
    cases mo with
    | none =>
      obtain ⟨_, ⟨_, A, rfl⟩, hn⟩ := hrow
      have hz : l = [] := by simpa [LL] using hn
      subst hz
      refine (h.nil A w).mono fun ex w' ⟨h1, h2⟩ => ⟨_, h1, h2, fun _ => ⟨?_, fun b cur cur' hb => by cases hb⟩⟩
      exact ⟨fun i x hx => by simp [LL, sortLists, Lib.compact, Lib.compactUpTo] at hx, ⟨by simp [LL, sortLists, Lib.compact, Lib.compactUpTo], A, rfl⟩, by simp [LL, sortLists, Lib.compact, Lib.compactUpTo]⟩
    | some b =>
      obtain ⟨_, ⟨cap, cur, rfl, hc, h1, h2, h3⟩, _, hnS, cur', hc', h5, h6⟩ := hrow
      rw [LL_len] at *
      rw [hc] at hc'
      cases hc'
      have hblk : b < w.heap.size := lt_of_blk hc
      obtain ⟨dl, hd1, hdl⟩ := mkH (w := w) (S := S) (cur := cur) l 0 fun i zs hz => by
        obtain ⟨_, v, hv, hrd⟩ := h6 i 0 _ (LL_at hz)
        rw [Nat.mul_one, Nat.add_zero] at hv
        exact ⟨v, by rw [Nat.zero_add]; exact hv, RD.ri hrd, hlz _ (List.mem_of_getElem? hz)⟩
      obtain ⟨d, rfl⟩ : ∃ d : Array (HdL w S), dl = d.toList := ⟨dl.toArray, rfl⟩
      have hd2 : Holds encH w b 0 d := by
        intro j hj
        rw [getElem!_pos d j hj]
        refine ⟨?_, by simp [World.frozen?, hc]⟩
        simp only [World.cell?, hc, Option.isSome_none, Bool.false_eq_true, if_false]
        exact hdl j _ (by simp [hj])
      have hds : d.size = l.length := by rw [← hd1]; simp
      have hcall := h.run w S b cap d hS hnS hd2 hblk (by omega) (by have h1 : l.length ≤ cap := h1; omega)
      rw [hds] at hcall
      refine hcall.mono fun ex w' ⟨d1, dk, n, q, kk, os, k1, k0, k2, k3, k4, k5, k6⟩ => ?_
      rw [hd1] at k5
      subst k3
      have hnew1 := heapS (enc := encH) (n := n) (os := os) d1 hc
      have hnew := heapS (enc := encH) (n := q) (os := #[]) dk hnew1
      have hcsz : (putCells encH 0 dk (putCells encH 0 d1 cur)).size = cur.size := by simp [putCells]
      have hsz1 : w.heap.size ≤ (sortWorld encH w b 0 n d1 os).heap.size := heapS_size
      have hsz2 : (sortWorld encH w b 0 n d1 os).heap.size ≤ (sortWorld encH (sortWorld encH w b 0 n d1 os) b 0 q dk #[]).heap.size := heapS_size
      have hst1 := stabS (enc := encH) (n := n) (os := os) d1 hS hnS
      have hst2 := stabS (enc := encH) (w := sortWorld encH w b 0 n d1 os) (n := q) (os := #[]) dk (fun k hk => Nat.lt_of_lt_of_le (hS k hk) hsz1) hnS
      have hkk : kk = (Lib.compact (sortLists l)).length := by
        rw [← k5]
        simp only [List.length_map, List.length_take, Array.length_toList]
        omega
      have h5' : l.length * 1 ≤ cur.size := h5
      refine ⟨_, k1, ⟨cur, _, hc, hcsz, rfl, rfl, rfl, by simpa [setBlk] using Nat.le_trans hsz1 hsz2, fun k hk => ?_⟩, fun _ => ⟨⟨LL_rows _, ?_, Nat.zero_le _, hnS, _, hnew, by rw [LL_len, hcsz]; omega, fun i c x hx => ?_⟩, ?_⟩⟩
      · have hk : k < w.heap.size := by simpa using hk
        by_cases hkb : k = b
        · subst hkb
          rw [setBlk_at hblk, hnew]
        · rw [setBlk_ne hkb, heapO _ (Nat.lt_of_lt_of_le hk hsz1) hkb]
          exact heapO _ hk hkb
      · rw [LL_len, hkk]
        have h1 : l.length ≤ cap := h1
        exact ⟨cap, _, rfl, hnew, by omega, h2, by rw [hcsz]; omega⟩
      · obtain ⟨rfl, zs, hz, rfl⟩ := LL_cell hx
        have hi0 := (List.getElem?_eq_some_iff.1 hz).1
        have hi : i < dk.size := by omega
        refine ⟨rfl, encH dk[i], ?_, ?_⟩
        · have hic : i < (putCells encH 0 d1 cur).size := by simp only [putCells, Array.size_mapIdx]; omega
          rw [Nat.mul_one, Nat.add_zero]
          conv => lhs; rw [putCells]
          rw [Array.getElem?_mapIdx, Array.getElem?_eq_getElem hic]
          simp [hi]
        · have : lstH dk[i] = zs := by
            rw [← k5, List.getElem?_map, List.getElem?_take_of_lt (by omega)] at hz
            simpa [hi] using hz
          rw [← this]
          exact RI.rd (RI.stab dk[i].h (hst1.trans hst2))
      · intro b1 c1 c2 hb1 hc1 hc2
        cases hb1
        rw [hc] at hc1
        cases hc1
        rw [hnew] at hc2
        cases hc2
        have hget : ∀ j (hj : j < kk), (Lib.compact (sortLists l))[j]? = some (lstH dk[j]) := fun j hj => by
          have hj2 : j < dk.size := by omega
          rw [← k5, List.getElem?_map, List.getElem?_take_of_lt hj]
          simp [hj2]
        have ex1 : ∀ j : Nat, ∃ i : Nat, ∀ hj : j < kk, l[i]? = some (lstH dk[j]) ∧ (d[i]? = some dk[j] ∨ lstH dk[j] = []) := by
          intro j
          by_cases hj : j < kk
          · have hj2 : j < dk.size := by omega
            rcases k6 dk[j] (by simp) with hm | hm
            · obtain ⟨i, hi, e⟩ := List.mem_iff_getElem.1 hm
              have hi' : i < d.size := by simpa using hi
              refine ⟨i, fun _ => ⟨?_, .inl ?_⟩⟩
              · refine (congrArg (fun z : BL => z[i]?) hd1).symm.trans ?_
                show (List.map lstH d.toList)[i]? = _
                rw [List.getElem?_map, List.getElem?_eq_getElem hi, e]
                rfl
              · rw [Array.getElem?_eq_getElem hi']
                simpa using e
            · have hmem : lstH dk[j] ∈ l := (mem_sortLists l _).1 ((mem_compactL _ _).1 (List.mem_of_getElem? (hget j hj)))
              obtain ⟨i, hi, e⟩ := List.mem_iff_getElem.1 hmem
              exact ⟨i, fun _ => ⟨by rw [List.getElem?_eq_getElem hi, e], .inr hm⟩⟩
          · exact ⟨0, fun h => absurd h hj⟩
        have ex2 := Classical.axiomOfChoice ex1
        obtain ⟨π, hπ⟩ := ex2
        rw [LL_len, ← hkk]
        refine ⟨π, fun i i' hi hi' he => ?_, fun i hi c x hx => ?_⟩
        · have g1 := (hπ i hi).1
          have g2 := (hπ i' hi').1
          rw [he, g2] at g1
          have g3 := hget i hi
          have g4 := hget i' hi'
          replace g1 := Option.some.inj g1
          rw [g1] at g4
          exact (List.getElem?_inj (i := i) (by rw [← hkk]; exact hi) hnd).1 (g3.trans g4.symm)
        · obtain ⟨rfl, zs, hz, rfl⟩ := LL_cell hx
          rw [hget i hi] at hz
          cases hz
          obtain ⟨q1, q2⟩ := hπ i hi
          refine ⟨LL_at q1, ?_⟩
          rcases q2 with q2 | q2
          · left
            have hpi : π i < d.size := (Array.getElem?_eq_some_iff.1 q2).1
            have g1 := hdl (π i) dk[i] (by rw [← q2]; simp)
            have hi2 : i < dk.size := by omega
            have hic : i < cur.size := by omega
            rw [Nat.zero_add] at g1
            simp only [Nat.mul_one, Nat.add_zero, putCells, Array.getElem?_mapIdx]
            rw [Array.getElem?_eq_getElem hic, g1]
            simp [hi2]
          · right
            rw [q2]
            exact ⟨1, rfl⟩
theorem RsI.ok {P : Program} {G : Gd} {f : FuncId} (h : RsI P f) : PrimOk P G f rowsSetGP := ⟨h.known, (fun args r hr => (rowsSetG_sound h hr).1), (fun k e sz xs rest r hr e' he => (rowsSetG_sound (G := noG) h hr).2 k e sz xs rest rfl e' he), fun b k xs r hr => by first | (cases hr; done) | (unfold rowsSetGP at hr; obtain ⟨q, h1, _⟩ := Option.bind_eq_some_iff.1 hr; obtain ⟨e, xs', h2⟩ := rowsArg_isRaw h1; cases h2)⟩
end Ovi

/-! Uql -/
namespace Ovi
open Go Go.Proofs Go.Sort Go.Lib

/-! ### lists of integers in strict order -/
def SSL (l : BL) : Prop := l.Pairwise fun x y => ltL x y = true
theorem sortLists_srt (l : BL) : (sortLists l).Pairwise fun x y => ltL y x = false := by
  have : (sortLists l).Pairwise fun x y => (!ltL y x) = true := by
    refine List.pairwise_mergeSort ?_ ?_ _
    · intro a b c h1 h2
      simp only [Bool.not_eq_true'] at h1 h2 ⊢
      exact swoL.ntrans c b a h2 h1
    · intro a b
      cases h : ltL b a with
      | false => simp
      | true =>
        have : ltL a b = false := by
          rw [ltL_iff] at h
          rw [ltL_f]
          exact List.le_of_lt h
        simp [this]
  exact this.imp fun h => by simpa using h
theorem ltL_tri (x y : List Int) : ltL x y = true ∨ x = y ∨ ltL y x = true := by
  cases h1 : ltL x y with
  | true => exact .inl rfl
  | false =>
    cases h2 : ltL y x with
    | true => exact .inr (.inr rfl)
    | false => exact .inr (.inl (antiL x y h1 h2))
theorem ltL_ne {x y : List Int} (h : ltL x y = true) : x ≠ y := by
  rintro rfl
  rw [swoL.irrefl] at h; cases h
theorem ltL_asymm {x y : List Int} (h : ltL x y = true) : ltL y x = false := by
  cases h' : ltL y x with
  | false => rfl
  | true => have := swoL.trans _ _ _ h h'; rw [swoL.irrefl] at this; cases this
theorem ssL_eq : ∀ {a b : BL}, SSL a → SSL b → (∀ z, z ∈ a ↔ z ∈ b) → a = b
  | [], [], _, _, _ => rfl
  | [], y :: b, _, _, h => by have := (h y).2 List.mem_cons_self; cases this
  | x :: a, [], _, _, h => by have := (h x).1 List.mem_cons_self; cases this
  | x :: a, y :: b, ha, hb, h => by
    have ha' := List.pairwise_cons.1 ha
    have hb' := List.pairwise_cons.1 hb
    have hxy : x = y := by
      rcases List.mem_cons.1 ((h x).1 List.mem_cons_self) with e | hx
      · exact e
      · rcases List.mem_cons.1 ((h y).2 List.mem_cons_self) with e | hy
        · exact e.symm
        · have h1 := hb'.1 x hx
          have h2 := ha'.1 y hy
          rw [ltL_asymm h1] at h2; cases h2
    subst hxy
    rw [ssL_eq ha'.2 hb'.2 fun z => ?_]
    constructor
    · intro hz
      rcases List.mem_cons.1 ((h z).1 (List.mem_cons_of_mem _ hz)) with e | h'
      · subst e; exact absurd rfl (ltL_ne (ha'.1 z hz))
      · exact h'
    · intro hz
      rcases List.mem_cons.1 ((h z).2 (List.mem_cons_of_mem _ hz)) with e | h'
      · subst e; exact absurd rfl (ltL_ne (hb'.1 z hz))
      · exact h'
theorem ssL_compact (l : BL) : SSL (Lib.compact (sortLists l)) := by
  have hs := sortLists_srt l
  generalize sortLists l = d at hs
  have hle : ∀ i j, i ≤ j → j < d.length → ltL d.toArray[j]! d.toArray[i]! = false := by
    intro i j hij hj
    rw [getElem!_pos _ i (by simp; omega), getElem!_pos _ j (by simp; omega)]
    simp only [List.getElem_toArray]
    rcases Nat.lt_or_eq_of_le hij with h | rfl
    · exact List.pairwise_iff_getElem.1 hs i j (by omega) hj h
    · exact swoL.irrefl _
  refine compact_pairwise _ d (fun i j hij hj hne => ?_) (fun i j m h1 h2 h3 he => ?_)
  · rcases ltL_tri d.toArray[i]! d.toArray[j]! with h | h | h
    · exact h
    · exact absurd h hne
    · rw [hle i j hij hj] at h; cases h
  · have a := hle i j h1 (by omega)
    have b := hle j m h2 h3
    rw [he] at a
    exact antiL _ _ b a |>.symm ▸ rfl
theorem ssL_ins {l : BL} {f : List Int} {k : Nat} (hs : SSL l) (hf : f ∉ l) (hlt : ∀ j y, j < k → l[j]? = some y → ltL y f = true) (hge : ∀ y, l[k]? = some y → ltL y f = false) : SSL (l.take k ++ f :: l.drop k) := by
  have hgt : ∀ y ∈ l.drop k, ltL f y = true := by
    intro y hy
    obtain ⟨j, hj⟩ := List.mem_iff_getElem?.1 hy
    rw [List.getElem?_drop] at hj
    have hyl := List.mem_of_getElem? hj
    have hkl : k < l.length := by have := (List.getElem?_eq_some_iff.1 hj).1; omega
    have h0 := hge l[k] (List.getElem?_eq_getElem hkl)
    have hk : ltL f l[k] = true := by
      rcases ltL_tri l[k] f with h | h | h
      · rw [h] at h0; cases h0
      · exact absurd (h ▸ List.getElem_mem hkl) hf
      · exact h
    cases j with
    | zero =>
      rw [Nat.add_zero, List.getElem?_eq_getElem hkl] at hj
      cases hj; exact hk
    | succ j =>
      have hjl := (List.getElem?_eq_some_iff.1 hj).1
      have e := (List.getElem?_eq_some_iff.1 hj).2
      have := List.pairwise_iff_getElem.1 hs k (k + (j + 1)) hkl hjl (by omega)
      rw [e] at this
      exact swoL.trans _ _ _ hk this
  refine List.pairwise_append.2 ⟨List.Pairwise.sublist (List.take_sublist k l) hs, List.pairwise_cons.2 ⟨hgt, List.Pairwise.sublist (List.drop_sublist k l) hs⟩, fun x hx y hy => ?_⟩
  obtain ⟨j, hj⟩ := List.mem_iff_getElem?.1 hx
  have hjk : j < k := by
    have := (List.getElem?_eq_some_iff.1 hj).1
    rw [List.length_take] at this; omega
  rw [List.getElem?_take_of_lt hjk] at hj
  have hxf := hlt j x hjk hj
  rcases List.mem_cons.1 hy with rfl | hy
  · exact hxf
  · exact swoL.trans _ _ _ hxf (hgt y hy)
theorem ssL_nodup (l : BL) : (Lib.compact (sortLists l)).Nodup := (ssL_compact l).imp fun {a b} h e => ltL_ne h e
end Ovi

/-! Grd -/
namespace Ovi
open Go Go.Proofs Go.RowKit Go.Sort Go.Lib
/-! ### a row's lists that are not dropped, in a row of their own -/
def neg (z : Int) : Bool := decide (z < 0)
def grnd (l : BL) : BL := l.filter fun z => !z.any neg
def groundGP (e0 : Nat) (args : Args) : Option Res := (rowsArg args).bind fun p => cond (Nat.beq p.1 e0) (some [(false, [.frow e0 1 1 (LL (grnd p.2))]), (true, [])]) none
/-- which elements stay -/
def stays (isn : Nat → Bool) (n : Nat) : List Nat := (List.range n).filter fun i => !isn i
theorem stays_nodup (isn : Nat → Bool) (n : Nat) : (stays isn n).Nodup := List.Pairwise.filter _ List.nodup_range
theorem stays_lt {isn : Nat → Bool} {n i : Nat} (h : i ∈ stays isn n) : i < n := List.mem_range.1 (List.mem_filter.1 h).1
theorem range_getD (l : BL) : (List.range l.length).map (fun i => l.getD i []) = l := by
  apply List.ext_getElem?
  intro i
  by_cases h : i < l.length
  · simp [h, List.getD_eq_getElem?_getD]
  · rw [List.getElem?_eq_none (by simpa using h), List.getElem?_eq_none (by omega)]
theorem grnd_eq (l : BL) : grnd l = (stays (fun i => (l.getD i []).any neg) l.length).map fun i => l.getD i [] := by
  unfold grnd stays
  conv => lhs; rw [← range_getD l]
  rw [List.filter_map]
  rfl
end Ovi

/-! Mkw -/
namespace Ovi
open Go Go.RowKit

/-! ### Functions that mark what a row holds: one law for all -/
/-- value v reads as rows xs and holds them, with all that is in them, in B; beyond the call it reads as its mark, in the same blocks -/
def NT : Nat → Prop := fun _ => False
def ListC (P : Program) (f : FuncId) (sz : Nat) (mk : Rows → Int → Option (Rows × Int)) : Prop :=
  ∀ (w : World) (v : Value) (xs : Rows) (B : Nat → Prop) (n : Nat) (k : Int) (xs' : Rows) (k' : Int), depD n (.list sz xs) = true → Fo n w v (.list sz xs) B → RD w B NT v (.list sz xs) → mk xs k = some (xs', k') → 0 ≤ k → k' ≤ 4611686018427387904 → (∀ b, B b → b < w.heap.size) →
    Calls P f #[v, .int .i64 k] w fun ex w' => ex = .returned (.int .i64 k') ∧ But B w w' ∧ RD w' B NT v (.list sz xs') ∧ ∃ n', depD n' (.list sz xs') = true ∧ Fo n' w' v (.list sz xs') B
/-- a row's block, with what each cell holds -/
structure RowG (w : World) (T : Nat → Prop) (b cap e sz : Nat) (xs : Rows) (g : Nat → Nat → Nat → Prop) : Prop where
  blk : ∃ cur : Array Value, w.heap[b]? = some (.cells cur e (0, 0)) ∧ cur.size = cap * sz ∧ ∀ i c x, cellD xs i c = some x → ∃ u, cur[i * sz + c]? = some u ∧ RD w (g i c) T u x ∧ ∃ n, depD n x = true ∧ Fo n w u x (g i c)
  len : xs.length ≤ cap
  row : ∀ (i : Nat) (x : List D), xs[i]? = some x → x.length = sz
  own : ∀ i c k, g i c k → k ≠ b
  inj : ∀ i c i' c' k, g i c k → g i' c' k → i = i' ∧ c = c'
def setD (xs : Rows) (i c : Nat) (d : D) : Rows := xs.set i ((xs.getD i []).set c d)
theorem setD_len (xs : Rows) (i c : Nat) (d : D) : (setD xs i c d).length = xs.length := by simp [setD]
theorem setD_row {xs : Rows} {sz : Nat} (h : ∀ (i : Nat) (x : List D), xs[i]? = some x → x.length = sz) (i c : Nat) (d : D) : ∀ (j : Nat) (x : List D), (setD xs i c d)[j]? = some x → x.length = sz := by
  intro j x hx
  unfold setD at hx
  by_cases hj : i = j
  · subst hj
    by_cases hi : i < xs.length
    · rw [List.getElem?_set_self hi] at hx
      cases hx
      rw [List.length_set, List.getD_eq_getElem?_getD, List.getElem?_eq_getElem hi]
      exact h i _ (List.getElem?_eq_getElem hi)
    · rw [List.getElem?_eq_none (by simp; omega)] at hx; cases hx
  · rw [List.getElem?_set_ne hj] at hx
    exact h j x hx
theorem setD_cell {xs : Rows} {i c : Nat} {d : D} {j c' : Nat} {x : D} (hx : cellD (setD xs i c d) j c' = some x) : (j = i ∧ c' = c ∧ x = d) ∨ (¬ (j = i ∧ c' = c) ∧ cellD xs j c' = some x) := by
  unfold cellD setD at hx
  obtain ⟨r, hr, hc⟩ := Option.bind_eq_some_iff.1 hx
  by_cases hj : i = j
  · subst hj
    by_cases hi : i < xs.length
    · rw [List.getElem?_set_self hi] at hr
      cases hr
      have hg : xs.getD i [] = xs[i] := by rw [List.getD_eq_getElem?_getD, List.getElem?_eq_getElem hi]; rfl
      by_cases hcc : c = c'
      · subst hcc
        by_cases hl : c < (xs.getD i []).length
        · rw [List.getElem?_set_self hl] at hc
          cases hc
          exact .inl ⟨rfl, rfl, rfl⟩
        · rw [List.getElem?_eq_none (by simp only [List.length_set]; omega)] at hc; cases hc
      · rw [List.getElem?_set_ne hcc, hg] at hc
        exact .inr ⟨fun h => hcc h.2.symm, by unfold cellD; rw [List.getElem?_eq_getElem hi]; exact hc⟩
    · rw [List.getElem?_eq_none (by simp; omega)] at hr; cases hr
  · rw [List.getElem?_set_ne hj] at hr
    exact .inr ⟨fun h => hj h.1.symm, by unfold cellD; rw [hr]; exact hc⟩
section
variable {w w' : World} {T : Nat → Prop} {b cap e sz : Nat} {xs : Rows} {g : Nat → Nat → Nat → Prop}
theorem pos_inj {sz i j c c' : Nat} (hc : c < sz) (hc' : c' < sz) (h : i * sz + c = j * sz + c') : i = j ∧ c = c' := by
  have hpos : 0 < sz := by omega
  have h1 : (i * sz + c) / sz = i := by rw [Nat.mul_comm, Nat.mul_add_div hpos, Nat.div_eq_of_lt hc, Nat.add_zero]
  have h2 : (j * sz + c') / sz = j := by rw [Nat.mul_comm, Nat.mul_add_div hpos, Nat.div_eq_of_lt hc', Nat.add_zero]
  have e : i = j := by rw [← h1, ← h2, h]
  subst e
  exact ⟨rfl, by omega⟩
theorem RowG.lt (h : RowG w T b cap e sz xs g) : b < w.heap.size := by obtain ⟨cur, h1, _⟩ := h.blk; exact lt_of_blk h1
/-- a cell of the row, as the program sees it -/
theorem RowG.at (h : RowG w T b cap e sz xs g) {i c : Nat} {x : D} (hx : cellD xs i c = some x) : ∃ u, w.cell? ⟨b, i * sz + c, none⟩ = some u ∧ w.frozen? ⟨b, i * sz + c, none⟩ = false ∧ RD w (g i c) T u x ∧ ∃ n, depD n x = true ∧ Fo n w u x (g i c) := by
  obtain ⟨cur, h1, h2, h3⟩ := h.blk
  obtain ⟨u, hu, hr⟩ := h3 i c x hx
  exact ⟨u, by simp [World.cell?, h1, hu], by simp [World.frozen?, h1], hr⟩
theorem cellD_in {xs : Rows} {sz i c : Nat} {x : D} (hr : ∀ (i : Nat) (x : List D), xs[i]? = some x → x.length = sz) (hx : cellD xs i c = some x) : i < xs.length ∧ c < sz := by
  unfold cellD at hx
  obtain ⟨r, h1, h2⟩ := Option.bind_eq_some_iff.1 hx
  have := hr i r h1
  exact ⟨(List.getElem?_eq_some_iff.1 h1).1, by rw [← this]; exact (List.getElem?_eq_some_iff.1 h2).1⟩
/-- the world that is told of the row: other blocks may be new -/
theorem RowG.world (h : RowG w T b cap e sz xs g) (hT : Stab T w w') (hb : w'.heap[b]? = w.heap[b]?) (hg : ∀ i c k, g i c k → w'.heap[k]? = w.heap[k]?) : RowG w' T b cap e sz xs g := by
  obtain ⟨cur, h1, h2, h3⟩ := h.blk
  exact ⟨⟨cur, hb.trans h1, h2, fun i c x hx => by
    obtain ⟨u, hu, hr, n, hd, hf⟩ := h3 i c x hx
    exact ⟨u, hu, hr.mono (fun k hk => hg i c k hk) hT (fun _ h => h) (fun _ h => h), n, hd, hf.stab (fun k hk => hg i c k hk) fun _ h => h⟩⟩, h.len, h.row, h.own, h.inj⟩
/-- a number, a truth value or a text is written -/
theorem RowG.set (h : RowG w T b cap e sz xs g) (hTb : ¬ T b) {i c : Nat} {x : D} (hx : cellD xs i c = some x) {v : Value} {d : D} (hd : d.scal = true) (hv : RD w T T v d) : RowG (w.setCell ⟨b, i * sz + c, none⟩ v) T b cap e sz (setD xs i c d) g := by
  obtain ⟨cur, h1, h2, h3⟩ := h.blk
  obtain ⟨hi, hc⟩ := cellD_in h.row hx
  have hbl := lt_of_blk h1
  have hne : ∀ k, k ≠ b → (w.setCell ⟨b, i * sz + c, none⟩ v).heap[k]? = w.heap[k]? := fun k hk => Below.heap_setCell _ _ _ _ hk
  have hat : (w.setCell ⟨b, i * sz + c, none⟩ v).heap[b]? = some (.cells (cur.setIfInBounds (i * sz + c) v) e (0, 0)) := by
    simp [World.setCell, Array.getElem?_modify, h1]
  have hT : Stab T w (w.setCell ⟨b, i * sz + c, none⟩ v) := fun k hk => hne k fun e => hTb (e ▸ hk)
  refine ⟨⟨_, hat, by simpa using h2, fun j c' y hy => ?_⟩, by rw [setD_len]; exact h.len, setD_row h.row i c d, h.own, h.inj⟩
  have hjl := cellD_in (setD_row h.row i c d) hy
  rcases setD_cell hy with ⟨rfl, rfl, rfl⟩ | ⟨hnn, hy⟩
  · have hlt : j * sz + c' < cur.size := by
      have : (j + 1) * sz ≤ cap * sz := Nat.mul_le_mul_right _ (by have := h.len; omega)
      rw [Nat.add_mul, Nat.one_mul] at this
      omega
    refine ⟨v, by rw [Array.getElem?_setIfInBounds_self_of_lt hlt], ?_, 0, ?_, True.intro⟩
    · cases y <;> first | cases hd; done | (cases hv; first | exact .int _ _ | exact .bool _); done | skip
      rename_i s
      generalize hs : D.str s = X at hv
      cases hv with
      | str b' => exact RD.str b'
      | _ => cases hs
    · cases y <;> first | rfl | cases hd
  · obtain ⟨u, hu, hr, n, hdn, hf⟩ := h3 j c' y hy
    have hlt := cellD_in h.row hy
    have hne2 : i * sz + c ≠ j * sz + c' := fun he => hnn (by obtain ⟨a, b⟩ := pos_inj hc hlt.2 he; exact ⟨a.symm, b.symm⟩)
    refine ⟨u, by rw [Array.getElem?_setIfInBounds_ne hne2]; exact hu, hr.mono (fun k hk => hne k (h.own _ _ _ hk)) hT (fun _ h => h) (fun _ h => h), n, hdn, hf.stab (fun k hk => hne k (h.own _ _ _ hk)) fun _ h => h⟩
/-- what cell (i, c) holds was written by a call -/
theorem RowG.call (h : RowG w T b cap e sz xs g) (hT : Stab T w w') {i c : Nat} {x : D} (hx : cellD xs i c = some x) {v : Value} {d : D} {off : Nat} (hoff : off = i * sz + c) (hu : w.cell? ⟨b, off, none⟩ = some v) (hb : But (g i c) w w') (hlt : ∀ j c' k, g j c' k → k < w.heap.size) (hr : RD w' (g i c) T v d) {n : Nat} (hd : depD n d = true) (hf : Fo n w' v d (g i c)) : RowG w' T b cap e sz (setD xs i c d) g := by
  subst hoff
  obtain ⟨cur, h1, h2, h3⟩ := h.blk
  obtain ⟨hi, hc⟩ := cellD_in h.row hx
  have hbb : w'.heap[b]? = w.heap[b]? := hb.block b (lt_of_blk h1) fun hk => h.own i c b hk rfl
  refine ⟨⟨cur, hbb.trans h1, h2, fun j c' y hy => ?_⟩, by rw [setD_len]; exact h.len, setD_row h.row i c d, h.own, h.inj⟩
  rcases setD_cell hy with ⟨rfl, rfl, rfl⟩ | ⟨hnn, hy⟩
  · refine ⟨v, ?_, hr, n, hd, hf⟩
    simpa [World.cell?, h1] using hu
  · obtain ⟨u, hu', hr', n', hdn, hf'⟩ := h3 j c' y hy
    have hst : ∀ k, g j c' k → w'.heap[k]? = w.heap[k]? := fun k hk => hb.block k (hlt j c' k hk) fun hk' => hnn (h.inj _ _ _ _ _ hk hk')
    exact ⟨u, hu', hr'.mono (fun k hk => hst k hk) hT (fun _ h => h) (fun _ h => h), n', hdn, hf'.stab (fun k hk => hst k hk) fun _ h => h⟩
/-- a value's forest as a row and what it holds -/
theorem Fo.rows {n : Nat} {v : Value} {B : Nat → Prop} (hd : depD n (.list sz xs) = true) (hf : Fo n w v (.list sz xs) B) (hr : RD w B T v (.list sz xs)) : (xs = [] ∧ ∃ A cap, v = .slice A 0 cap) ∨ ∃ b cap e g, v = .slice (some ⟨b, 0, none⟩) xs.length cap ∧ xs.length ≤ cap ∧ cap ≤ maxLen ∧ B b ∧ (∀ i c k, g i c k → B k) ∧ RowG w T b cap e sz xs g := by
  by_cases hx : xs = []
  · subst hx
    generalize hl : D.list sz [] = X at hr
    cases hr with
    | list A cap sz' xs' g h1 h3 h4 h5 h6 => cases hl; exact .inl ⟨rfl, A, cap, rfl⟩
    | _ => cases hl
  · cases n with
    | zero => simp [depD, hx] at hd
    | succ n =>
      rcases hf with hf | ⟨b, cap, cur, e, g, k1, k2, k3, k4, k5, k6, k7, k8, k9⟩
      · exact absurd hf hx
      · refine .inr ⟨b, cap, e, g, k1, k3, k4, k6, fun i c k hk => (k7 i c k hk).1, ⟨⟨cur, k2, k5, fun i c x hc => ?_⟩, k3, ?_, fun i c k hk => (k7 i c k hk).2, k8⟩⟩
        · obtain ⟨u, hu, hfu⟩ := k9 i c x hc
          refine ⟨u, hu, ?_, n, depD_cell hd hc, hfu⟩
          generalize hl : D.list sz xs = X at hr
          cases hr with
          | list A cap' sz' xs' g' h1 h3 h4 h5 h6 =>
            cases hl
            cases k1
            obtain ⟨ad, ha, _, hcell⟩ := h4 i c x hc
            cases ha
            rw [add_at] at hcell
            simp only [World.cell?, k2, Nat.zero_add, Option.isSome_none, Bool.false_eq_true, if_false] at hcell
            rw [hu] at hcell
            cases hcell
            exact hfu.rd (depD_cell hd hc) (h5 i c x hc)
          | _ => cases hl
        · generalize hl : D.list sz xs = X at hr
          cases hr with
          | list A cap' sz' xs' g' h1 h3 h4 h5 h6 => cases hl; exact h3
          | _ => cases hl
/-- .. and back -/
theorem RowG.forest {B : Nat → Prop} (h : RowG w T b cap e sz xs g) (hcap : cap ≤ maxLen) (hB : B b) (hg : ∀ i c k, g i c k → B k) : RD w B T (.slice (some ⟨b, 0, none⟩) xs.length cap) (.list sz xs) ∧ ∃ n, depD n (.list sz xs) = true ∧ Fo n w (.slice (some ⟨b, 0, none⟩) xs.length cap) (.list sz xs) B := by
  obtain ⟨cur, h1, h2, h3⟩ := h.blk
  refine ⟨?_, ?_⟩
  · have hex : ∀ p : Nat × Nat, ∃ u : Value, ∀ x, cellD xs p.1 p.2 = some x → cur[p.1 * sz + p.2]? = some u ∧ RD w (g p.1 p.2) T u x ∧ x.isFn = false := by
      rintro ⟨i, c⟩
      cases hx : cellD xs i c with
      | none => exact ⟨undef, fun x hx => by cases hx⟩
      | some x =>
        obtain ⟨u, hu, hr, n, hd, _⟩ := h3 i c x hx
        exact ⟨u, fun y hy => by injection hy with hy; subst hy; exact ⟨hu, hr, depD_noFn hd⟩⟩
    obtain ⟨f, hf⟩ := Classical.axiomOfChoice hex
    refine .list _ cap sz xs (fun i c => f (i, c)) h.len h.row (fun i c x hx => ⟨_, rfl, hB, ?_⟩) (fun i c x hx => (hf (i, c) x hx).2.1.mono (Stab.refl _ _) (Stab.refl _ _) (fun k hk => hg i c k hk) fun _ h => h) (fun i c x hx => (hf (i, c) x hx).2.2)
    rw [add_at]
    simp only [World.cell?, h1, Nat.zero_add, Option.isSome_none, Bool.false_eq_true, if_false]
    exact (hf (i, c) x hx).1
  · -- one depth for all cells
    have hup : ∀ {n m : Nat} {x : D}, n ≤ m → depD n x = true → depD m x = true := by
      intro n
      induction n with
      | zero =>
        intro m x _ hd
        cases x with
        | list s l => simp only [depD, List.isEmpty_iff] at hd; subst hd; cases m <;> rfl
        | fn _ _ => simp [depD] at hd
        | _ => cases m <;> rfl
      | succ n ih =>
        intro m x hm hd
        cases m with
        | zero => omega
        | succ m =>
          cases x with
          | list s l =>
            simp only [depD, List.all_eq_true] at hd ⊢
            exact fun r hr y hy => ih (by omega) (hd r hr y hy)
          | fn _ _ => simp [depD] at hd
          | _ => rfl
    have hcells : ∃ n, ∀ i c x, cellD xs i c = some x → depD n x = true := by
      have hex : ∀ p : Nat × Nat, ∃ n : Nat, ∀ x, cellD xs p.1 p.2 = some x → depD n x = true := by
        rintro ⟨i, c⟩
        cases hx : cellD xs i c with
        | none => exact ⟨0, fun x hx => by cases hx⟩
        | some x =>
          obtain ⟨u, hu, hr, n, hd, _⟩ := h3 i c x hx
          exact ⟨n, fun y hy => by injection hy with hy; subst hy; exact hd⟩
      obtain ⟨f, hf⟩ := Classical.axiomOfChoice hex
      have hmax : ∀ m1 m2 : Nat, ∃ N, ∀ i c, i < m1 → c < m2 → f (i, c) ≤ N := by
        intro m1 m2
        induction m1 with
        | zero => exact ⟨0, fun i c h => by omega⟩
        | succ m1 ih =>
          obtain ⟨N, hN⟩ := ih
          have : ∀ m2, ∃ M, ∀ c, c < m2 → f (m1, c) ≤ M := by
            intro m2
            induction m2 with
            | zero => exact ⟨0, fun c h => by omega⟩
            | succ m2 ih2 =>
              obtain ⟨M, hM⟩ := ih2
              refine ⟨max M (f (m1, m2)), fun c hc => ?_⟩
              by_cases hcm : c = m2
              · subst hcm; omega
              · have := hM c (by omega); omega
          obtain ⟨M, hM⟩ := this m2
          refine ⟨max N M, fun i c hi hc => ?_⟩
          by_cases him : i = m1
          · subst him; have := hM c hc; omega
          · have := hN i c (by omega) hc; omega
      obtain ⟨N, hN⟩ := hmax xs.length sz
      refine ⟨N, fun i c x hx => ?_⟩
      obtain ⟨hi, hc⟩ := cellD_in h.row hx
      exact hup (hN i c hi hc) (hf (i, c) x hx)
    obtain ⟨n, hn⟩ := hcells
    refine ⟨n + 1, ?_, .inr ⟨b, cap, cur, e, g, rfl, h1, h.len, hcap, h2, hB, fun i c k hk => ⟨hg i c k hk, h.own i c k hk⟩, h.inj, fun i c y hy => ?_⟩⟩
    · simp only [depD, List.all_eq_true]
      intro r hr y hy
      obtain ⟨i, hi⟩ := List.getElem?_of_mem hr
      obtain ⟨c, hc⟩ := List.getElem?_of_mem hy
      exact hn i c y (by unfold cellD; rw [hi]; exact hc)
    · obtain ⟨u, hu, hr, m, hd, hf⟩ := h3 i c y hy
      exact ⟨u, hu, hf.up hd⟩
end
end Ovi

/-! Mkd -/
namespace Ovi
open Go Go.RowKit

abbrev Step1 := List D → Int → Option (List D × Int)
/-- the first rows are marked -/
def mkN (step : Step1) : Nat → Rows → Int → Option (Rows × Int)
  | 0, xs, k => some (xs, k)
  | i + 1, xs, k => (mkN step i xs k).bind fun p => (p.1[i]?).bind fun r => (step r p.2).map fun q => (p.1.set i q.1, q.2)
def mkRows (step : Step1) (xs : Rows) (k : Int) : Option (Rows × Int) := mkN step xs.length xs k
/-- marks go up, and keep a row's shape -/
def Up (step : Step1) : Prop := ∀ r k r' k', step r k = some (r', k') → k ≤ k' ∧ r'.length = r.length
theorem mkN_succ {step : Step1} {i : Nat} {xs ys : Rows} {k k' : Int} (h : mkN step (i + 1) xs k = some (ys, k')) : ∃ zs k1 r r', mkN step i xs k = some (zs, k1) ∧ zs[i]? = some r ∧ step r k1 = some (r', k') ∧ ys = zs.set i r' := by
  unfold mkN at h
  obtain ⟨p, h1, h2⟩ := Option.bind_eq_some_iff.1 h
  obtain ⟨r, h3, h4⟩ := Option.bind_eq_some_iff.1 h2
  obtain ⟨q, h5, h6⟩ := Option.map_eq_some_iff.1 h4
  cases h6
  exact ⟨p.1, p.2, r, q.1, h1, h3, h5, rfl⟩
theorem mkN_up {step : Step1} (hs : Up step) : ∀ {i : Nat} {xs ys : Rows} {k k' : Int}, mkN step i xs k = some (ys, k') → k ≤ k' ∧ ys.length = xs.length
  | 0, xs, ys, k, k', h => by cases h; exact ⟨Int.le_refl _, rfl⟩
  | i + 1, xs, ys, k, k', h => by
    obtain ⟨zs, k1, r, r', h1, h2, h3, rfl⟩ := mkN_succ h
    obtain ⟨q1, q2⟩ := mkN_up hs h1
    exact ⟨Int.le_trans q1 (hs _ _ _ _ h3).1, by simp [q2]⟩
theorem mkN_mid {step : Step1} (hs : Up step) {xs xs' : Rows} {k k' : Int} : ∀ {m i : Nat}, i ≤ m → mkN step m xs k = some (xs', k') → ∃ ys k1, mkN step i xs k = some (ys, k1) ∧ k1 ≤ k'
  | 0, i, hi, h => by obtain rfl : i = 0 := by omega
                      exact ⟨xs', k', h, Int.le_refl _⟩
  | m + 1, i, hi, h => by
    by_cases he : i = m + 1
    · subst he; exact ⟨xs', k', h, Int.le_refl _⟩
    · obtain ⟨zs, k1, r, r', h1, h2, h3, rfl⟩ := mkN_succ h
      obtain ⟨ys, k2, q1, q2⟩ := mkN_mid hs (m := m) (i := i) (by omega) h1
      exact ⟨ys, k2, q1, Int.le_trans q2 (hs _ _ _ _ h3).1⟩
/-- the next row -/
theorem mkN_next {step : Step1} (hs : Up step) {xs xs' ys : Rows} {k k' k1 : Int} {i : Nat} (hm : mkRows step xs k = some (xs', k')) (h : mkN step i xs k = some (ys, k1)) (hi : i < xs.length) :
    ∃ r r' k2, ys[i]? = some r ∧ step r k1 = some (r', k2) ∧ mkN step (i + 1) xs k = some (ys.set i r', k2) ∧ k ≤ k1 ∧ k1 ≤ k2 ∧ k2 ≤ k' ∧ ys.length = xs.length := by
  obtain ⟨zs, k2, h1, h2⟩ := mkN_mid hs (m := xs.length) (i := i + 1) hi hm
  obtain ⟨ys', k1', r, r', q1, q2, q3, rfl⟩ := mkN_succ h1
  rw [h] at q1
  cases q1
  obtain ⟨p1, p2⟩ := mkN_up hs h
  exact ⟨r, r', k2, q2, q3, h1, p1, (hs _ _ _ _ q3).1, h2, p2⟩
theorem mkRows_up {step : Step1} (hs : Up step) {xs ys : Rows} {k k' : Int} (h : mkRows step xs k = some (ys, k')) : k ≤ k' ∧ ys.length = xs.length := mkN_up hs h
theorem But.setCell {B : Nat → Prop} {w : World} {b off : Nat} {v : Value} (hb : B b) : But B w (w.setCell ⟨b, off, none⟩ v) :=
  ⟨rfl, rfl, rfl, by simp [World.setCell], fun k hk hn => Below.heap_setCell _ _ _ _ fun e => hn (by subst e; exact hb), fun k cur e hc => by
    by_cases hk : k = b
    · subst hk
      exact ⟨cur.setIfInBounds off v, by simp [World.setCell, Array.getElem?_modify, hc], by simp⟩
    · exact ⟨cur, (Below.heap_setCell _ _ _ _ hk).trans hc, rfl⟩⟩
theorem setD_other {xs : Rows} {i c c' : Nat} {d x : D} (hx : cellD xs i c' = some x) (hc : c' ≠ c) : cellD (setD xs i c d) i c' = some x := by
  unfold cellD at hx ⊢
  obtain ⟨r, hr, hy⟩ := Option.bind_eq_some_iff.1 hx
  have hi := (List.getElem?_eq_some_iff.1 hr).1
  have hg : xs.getD i [] = r := by rw [List.getD_eq_getElem?_getD, hr]; rfl
  unfold setD
  rw [List.getElem?_set_self hi, hg]
  simp only [Option.bind_some]
  rw [List.getElem?_set_ne (Ne.symm hc)]
  exact hy
theorem setD_at {xs : Rows} {i c : Nat} {d : D} {r : List D} (hr : xs[i]? = some r) : setD xs i c d = xs.set i (r.set c d) := by
  unfold setD
  rw [List.getD_eq_getElem?_getD, hr]; rfl
theorem set_at {xs : Rows} {i : Nat} {r r' : List D} (hr : xs[i]? = some r) : (xs.set i r')[i]? = some r' := List.getElem?_set_self (List.getElem?_eq_some_iff.1 hr).1
/-- a row of numbers -/
def stepInt : Step1
  | [.int .i64 _], k => some ([.int .i64 k], k + 1)
  | _, _ => none
theorem stepInt_some {r r' : List D} {k k' : Int} (h : stepInt r k = some (r', k')) : ∃ z, r = [.int .i64 z] ∧ r' = [.int .i64 k] ∧ k' = k + 1 := by
  unfold stepInt at h
  split at h
  · rename_i z
    cases h
    exact ⟨z, rfl, rfl, rfl⟩
  · cases h
theorem stepInt_up : Up stepInt := fun r k r' k' h => by
  obtain ⟨z, rfl, rfl, rfl⟩ := stepInt_some h
  exact ⟨by omega, rfl⟩
/-- a row of rows of numbers -/
def stepInts : Step1
  | [.list 1 ys], k => (mkRows stepInt ys k).map fun q => ([.list 1 q.1], q.2)
  | _, _ => none
theorem stepInts_some {r r' : List D} {k k' : Int} (h : stepInts r k = some (r', k')) : ∃ ys ys', r = [.list 1 ys] ∧ mkRows stepInt ys k = some (ys', k') ∧ r' = [.list 1 ys'] := by
  unfold stepInts at h
  split at h
  · rename_i ys
    obtain ⟨q, h1, h2⟩ := Option.map_eq_some_iff.1 h
    cases h2
    exact ⟨ys, q.1, rfl, h1, rfl⟩
  · cases h
theorem stepInts_up : Up stepInts := fun r k r' k' h => by
  obtain ⟨ys, ys', rfl, h1, rfl⟩ := stepInts_some h
  exact ⟨(mkRows_up stepInt_up h1).1, rfl⟩
/-- a Skolem term: two numbers and a row of numbers -/
def stepTerm : Step1
  | [.int .i64 _, .int .i64 _, .list 1 ys], k => (mkRows stepInt ys (k + 1 + 1)).map fun q => ([.int .i64 k, .int .i64 (k + 1), .list 1 q.1], q.2)
  | _, _ => none
theorem stepTerm_some {r r' : List D} {k k' : Int} (h : stepTerm r k = some (r', k')) : ∃ z z' ys ys', r = [.int .i64 z, .int .i64 z', .list 1 ys] ∧ mkRows stepInt ys (k + 1 + 1) = some (ys', k') ∧ r' = [.int .i64 k, .int .i64 (k + 1), .list 1 ys'] := by
  unfold stepTerm at h
  split at h
  · rename_i z z' ys
    obtain ⟨q, h1, h2⟩ := Option.map_eq_some_iff.1 h
    cases h2
    exact ⟨z, z', ys, q.1, rfl, h1, rfl⟩
  · cases h
theorem stepTerm_up : Up stepTerm := fun r k r' k' h => by
  obtain ⟨z, z', ys, ys', rfl, h1, rfl⟩ := stepTerm_some h
  have := (mkRows_up stepInt_up h1).1
  exact ⟨by omega, rfl⟩
/-- a relation: a text, a number, a truth value -/
def stepRel (mt : Int → List UInt8) : Step1
  | [.str _, .int .i64 _, .bool _], k => some ([.str (mt k), .int .i64 (k + 1), .bool ((k + 1 + 1) % 3 == 0)], k + 1 + 1 + 1)
  | _, _ => none
theorem stepRel_some {mt : Int → List UInt8} {r r' : List D} {k k' : Int} (h : stepRel mt r k = some (r', k')) : ∃ s z t, r = [.str s, .int .i64 z, .bool t] ∧ r' = [.str (mt k), .int .i64 (k + 1), .bool ((k + 1 + 1) % 3 == 0)] ∧ k' = k + 1 + 1 + 1 := by
  unfold stepRel at h
  split at h
  · rename_i s z t
    cases h
    exact ⟨s, z, t, rfl, rfl, rfl⟩
  · cases h
theorem stepRel_up {mt : Int → List UInt8} : Up (stepRel mt) := fun r k r' k' h => by
  obtain ⟨s, z, t, rfl, rfl, rfl⟩ := stepRel_some h
  exact ⟨by omega, rfl⟩
/-- a fact: a number and a row of numbers -/
def stepFact : Step1
  | [.int .i64 _, .list 1 ys], k => (mkRows stepInt ys (k + 1)).map fun q => ([.int .i64 k, .list 1 q.1], q.2)
  | _, _ => none
theorem stepFact_some {r r' : List D} {k k' : Int} (h : stepFact r k = some (r', k')) : ∃ z ys ys', r = [.int .i64 z, .list 1 ys] ∧ mkRows stepInt ys (k + 1) = some (ys', k') ∧ r' = [.int .i64 k, .list 1 ys'] := by
  unfold stepFact at h
  split at h
  · rename_i z ys
    obtain ⟨q, h1, h2⟩ := Option.map_eq_some_iff.1 h
    cases h2
    exact ⟨z, ys, q.1, rfl, h1, rfl⟩
  · cases h
theorem stepFact_up : Up stepFact := fun r k r' k' h => by
  obtain ⟨z, ys, ys', rfl, h1, rfl⟩ := stepFact_some h
  have := (mkRows_up stepInt_up h1).1
  exact ⟨by omega, rfl⟩
/-- an instance's cells -/
def stepInst (mt : Int → List UInt8) : Step1
  | [.list 3 rs, .list 2 fs], k => (mkRows (stepRel mt) rs k).bind fun p => (mkRows stepFact fs p.2).map fun q => ([.list 3 p.1, .list 2 q.1], q.2)
  | _, _ => none
theorem stepInst_some {mt : Int → List UInt8} {r r' : List D} {k k' : Int} (h : stepInst mt r k = some (r', k')) : ∃ x0 x1 y0 k1 y1, r = [.list 3 x0, .list 2 x1] ∧ mkRows (stepRel mt) x0 k = some (y0, k1) ∧ mkRows stepFact x1 k1 = some (y1, k') ∧ r' = [.list 3 y0, .list 2 y1] := by
  unfold stepInst at h
  split at h
  · rename_i rs fs
    obtain ⟨p, h1, h2⟩ := Option.bind_eq_some_iff.1 h
    obtain ⟨q, h3, h4⟩ := Option.map_eq_some_iff.1 h2
    cases h4
    exact ⟨rs, fs, p.1, p.2, q.1, rfl, h1, h3, rfl⟩
  · cases h
theorem stepInst_up {mt : Int → List UInt8} : Up (stepInst mt) := fun r k r' k' h => by
  obtain ⟨x0, x1, y0, k1, y1, rfl, h1, h2, rfl⟩ := stepInst_some h
  have := (mkRows_up stepRel_up h1).1
  have := (mkRows_up stepFact_up h2).1
  exact ⟨by omega, rfl⟩
/-- a Skolem state's cells -/
def stepState (mt : Int → List UInt8) : Step1
  | [x0, x1, .list 3 ts], k => (stepInst mt [x0, x1] k).bind fun p => (mkRows stepTerm ts p.2).map fun q => (p.1 ++ [.list 3 q.1], q.2)
  | _, _ => none
theorem stepState_some {mt : Int → List UInt8} {r r' : List D} {k k' : Int} (h : stepState mt r k = some (r', k')) : ∃ x0 x1 x2 y0 y1 k1 y2, r = [x0, x1, .list 3 x2] ∧ stepInst mt [x0, x1] k = some ([y0, y1], k1) ∧ mkRows stepTerm x2 k1 = some (y2, k') ∧ r' = [y0, y1, .list 3 y2] := by
  unfold stepState at h
  split at h
  · rename_i x0 x1 ts
    obtain ⟨p, h1, h2⟩ := Option.bind_eq_some_iff.1 h
    obtain ⟨q, h3, h4⟩ := Option.map_eq_some_iff.1 h2
    cases h4
    obtain ⟨a0, a1, b0, k1, b1, _, _, _, e⟩ := stepInst_some (r' := p.1) (k' := p.2) h1
    obtain ⟨p1, p2⟩ := p
    simp only at e
    subst e
    exact ⟨x0, x1, ts, _, _, p2, q.1, rfl, h1, h3, rfl⟩
  · cases h
end Ovi

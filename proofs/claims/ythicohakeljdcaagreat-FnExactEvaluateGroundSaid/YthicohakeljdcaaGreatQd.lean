/-
Towards the law: a machine that runs the program's own code on plain data, its soundness, the library by its contracts, and what the functions compute: part 4 (Mkc Mke Mkf Mky Mkx Sd Rsd UB UF UGa). No condition.
-/
import Derived.Test.YthicohakeljdcaaGreatQc
import Derived.Test.YthicohakeljdcaaGreatQb
import Derived.Test.YthicohakeljdcaaGreatProg
import Derived.KernelRfl
set_option linter.unusedVariables false
set_option linter.unusedSimpArgs false
/-! Mkc -/
namespace Ovi
open Go Go.RowKit

/-! ### Marks as calls of the machine's -/
def parseM : Args → Option (List MCell)
  | [] => some []
  | .d (.int .i64 e) :: .d (.list sz xs) :: r => (parseM r).map fun l => .row e.toNat sz xs :: l
  | .d x :: r => cond x.scal ((parseM r).map fun l => .any x :: l) none
  | _ => none
theorem parseM_any {x : D} {r : Args} (hx : x.scal = true) (hr : ∀ s l r', r ≠ .d (.list s l) :: r') : parseM (.d x :: r) = (parseM r).map fun l => .any x :: l := by
  cases x with
  | int k n =>
    cases k <;> try (simp only [parseM, hx, cond_true]; done)
    cases r with
    | nil => simp [parseM, hx]
    | cons a r' =>
      cases a with
      | d y =>
        cases y with
        | list s l => exact absurd rfl (hr s l r')
        | _ => simp [parseM, D.scal]
      | _ => simp [parseM, D.scal]
  | bool b => simp [parseM, D.scal]
  | str b => simp [parseM, D.scal]
  | _ => cases hx
theorem encM_head : ∀ {cs : List MCell}, cs.all MCell.ok = true → ∀ s l r', encM cs ≠ .d (.list s l) :: r'
  | [], _, s, l, r', h => by cases h
  | .row _ _ _ :: _, _, s, l, r', h => by simp [encM] at h
  | .any x :: r, ho, s, l, r', h => by
    simp only [List.all_cons, Bool.and_eq_true] at ho
    simp only [encM, List.cons.injEq, AV.d.injEq] at h
    rw [h.1] at ho
    cases ho.1
theorem parseM_encM : ∀ {cs : List MCell}, cs.all MCell.ok = true → parseM (encM cs) = some cs
  | [], _ => rfl
  | .row e sz xs :: r, h => by
    simp only [List.all_cons, Bool.and_eq_true] at h
    simp [encM, parseM, parseM_encM h.2]
  | .any x :: r, h => by
    have h' := h
    simp only [List.all_cons, Bool.and_eq_true] at h
    simp only [encM]
    rw [parseM_any h.1 (encM_head h.2), parseM_encM h.2]
    rfl
abbrev MkC := List MCell → Int → Option (List MCell × Int)
/-- a mark function as the machine calls it; b: its argument is a struct -/
def markP (b : Bool) (mk : MkC) : Args → Option Res
  | .var 0 0 :: .d (.bool b') :: .d (.int .i64 k) :: xs => cond (b' == b && decide (0 ≤ k)) ((parseM xs).bind fun cs => (mk cs k).bind fun q => cond (decide (q.2 ≤ 4611686018427387904)) (some (encR q.1 ++ [(false, [.d (.int .i64 q.2)])])) none) none
  | _ => none
/-- what it does -/
def CellsC (P : Program) (f : FuncId) (b : Bool) (mk : MkC) : Prop :=
  ∀ (cs : List MCell) (k : Int) (cs' : List MCell) (k' : Int), cs.all MCell.ok = true → mk cs k = some (cs', k') → 0 ≤ k → k' ≤ 4611686018427387904 → LikeM cs cs' ∧
    ∀ (w : World) (T : Nat → Prop) (v : Value) (us : Array Value) (mo : Nat → Option Nat) (GG : GGs), (b = true → v = .agg us) → (b = false → us = #[v]) → us.size = cs.length →
      (∀ j x, cs[j]? = some (.any x) → mo j = none ∧ ∃ u, us[j]? = some u ∧ RD w T T u x) → RowsF w T cs us mo GG →
      (∀ j i c j' i' c' b, GG j i c b → GG j' i' c' b → j = j' ∧ i = i' ∧ c = c') → (∀ j j' b, mo j = some b → mo j' = some b → j = j') → (∀ j i c b, GG j i c b → b < w.heap.size ∧ ∀ j', mo j' ≠ some b) →
      Calls P f #[v, .int .i64 k] w fun ex w' => ex = .returned (.int .i64 k') ∧ But (Wr mo GG) w w' ∧ ∃ GG' : GGs, (∀ j i c b, GG' j i c b → ∃ i' c', GG j i' c' b) ∧ (∀ j i c i' c' b, GG' j i c b → GG' j i' c' b → i = i' ∧ c = c') ∧ RowsF w' T cs' us mo GG'
theorem markP_ok {P : Program} {G : Gd} {f : FuncId} {b : Bool} {mk : MkC} (hk : Known P f) (h : CellsC P f b mk) : PrimOk P G f (markP b mk) := by
  refine ⟨hk, fun args r hr => ?_, (fun k e sz xs rest r hr e' he => by cases hr), fun b' k xs r hr cs hcs hok => ?_⟩
  · unfold markP at hr
    split at hr
    · intro w S T vs hS hT hl
      obtain ⟨u, hu, ⟨cs, h⟩, _⟩ := hl.2 0 _ rfl
      cases h
    · cases hr
  · subst hcs
    simp only [markP, rawTag] at hr
    cases hb : (b' == b && decide (0 ≤ k)) with
    | false => rw [hb] at hr; cases hr
    | true =>
      rw [hb] at hr
      simp only [Bool.and_eq_true, beq_iff_eq, decide_eq_true_eq] at hb
      obtain ⟨rfl, hk0⟩ := hb
      simp only [cond_true, parseM_encM hok, Option.bind_some] at hr
      obtain ⟨⟨cs', k'⟩, h1, h2⟩ := Option.bind_eq_some_iff.1 hr
      cases hk' : decide (k' ≤ 4611686018427387904) with
      | false => simp only [hk'] at h2; cases h2
      | true =>
        simp only [hk', cond_true] at h2
        cases h2
        obtain ⟨q1, q2⟩ := h cs k cs' k' hok h1 hk0 (of_decide_eq_true hk')
        exact ⟨cs', k', rfl, q1, q2⟩

section
variable {w w' : World} {T : Nat → Prop} {mo : Option Nat} {e sz : Nat} {xs xs' : Rows} {u : Value} {G : Nat → Nat → Nat → Prop}
/-- what a row and its claims lie in -/
def Bof (mo : Option Nat) (G : Nat → Nat → Nat → Prop) : Nat → Prop := fun k => mo = some k ∨ ∃ i c, G i c k
theorem rowF.forest (h : rowF w T mo e sz xs u G) (hc : ∀ i c k, G i c k → mo ≠ some k) (hi : ∀ i c i' c' k, G i c k → G i' c' k → i = i' ∧ c = c') :
    RD w (Bof mo G) NT u (.list sz xs) ∧ ∃ n, depD n (.list sz xs) = true ∧ Fo n w u (.list sz xs) (Bof mo G) := by
  obtain ⟨h1, h2, h3⟩ := h
  cases mo with
  | none =>
    subst h3
    obtain ⟨_, A, rfl⟩ := h2
    exact ⟨RD.nil A sz, 0, rfl, True.intro⟩
  | some b =>
    obtain ⟨cap, cur, rfl, k2, k3, k4, k5⟩ := h2
    obtain ⟨cur', k6, k7⟩ := h3
    rw [k2] at k6
    cases k6
    refine RowG.forest (cap := cap) (e := e) (b := b) (g := G) ⟨⟨cur, k2, k5, fun i c x hx => ?_⟩, k3, h1, fun i c k hk he => hc i c k hk (by rw [he]), hi⟩ k4 (.inl rfl) (fun i c k hk => .inr ⟨i, c, hk⟩)
    obtain ⟨v, hv, hr, n, hd, hf⟩ := k7 i c x hx
    exact ⟨v, hv, hr.noFn (depD_noFn hd), n, hd, hf⟩
theorem rowF.back (h : rowF w T mo e sz xs u G) {X : Nat → Prop} (hb : But X w w') (hl : xs'.length = xs.length) (hr : RD w' (Bof mo G) NT u (.list sz xs')) (hf : ∃ n, depD n (.list sz xs') = true ∧ Fo n w' u (.list sz xs') (Bof mo G)) :
    ∃ G' : Nat → Nat → Nat → Prop, (∀ i c k, G' i c k → ∃ i' c', G i' c' k) ∧ (∀ i c i' c' k, G' i c k → G' i' c' k → i = i' ∧ c = c') ∧ rowF w' T mo e sz xs' u G' := by
  obtain ⟨h1, h2, h3⟩ := h
  obtain ⟨n, hd, hf⟩ := hf
  have own : OwnC w' mo e sz u xs'.length := by
    rw [hl]
    exact h2.mono fun b cur e hm hc => hb.kind b cur e hc
  rcases Fo.rows hd hf hr with ⟨rfl, _⟩ | ⟨b, cap, e1, g, he, hle, hcap, hB, hg, hrow⟩
  · refine ⟨fun _ _ _ => False, fun _ _ _ h => h.elim, fun _ _ _ _ _ h => h.elim, fun i x hx => by simp at hx, own, ?_⟩
    cases mo with
    | none => rfl
    | some b =>
      obtain ⟨cap, cur, _, k2, _⟩ := own
      exact ⟨cur, k2, fun i c x hx => by simp [cellD] at hx⟩
  · cases mo with
    | none =>
      have hx : xs' = [] := List.eq_nil_of_length_eq_zero (by rw [hl, h3]; rfl)
      subst hx
      exact ⟨fun _ _ _ => False, fun _ _ _ h => h.elim, fun _ _ _ _ _ h => h.elim, fun i x hx => by simp at hx, own, rfl⟩
    | some b0 =>
      obtain ⟨cap0, cur0, k1, k2, k3, k4, k5⟩ := own
      rw [he] at k1
      cases k1
      obtain ⟨cur1, p1, p2, p3⟩ := hrow.blk
      rw [k2] at p1
      cases p1
      refine ⟨g, fun i c k hk => ?_, hrow.inj, hrow.row, ⟨cap, cur0, he, k2, k3, k4, k5⟩, cur0, k2, fun i c x hx => ?_⟩
      · rcases hg i c k hk with h | h
        · cases h; exact absurd rfl (hrow.own i c _ hk)
        · exact h
      · obtain ⟨v, hv, hrv, m, hdm, hfm⟩ := p3 i c x hx
        exact ⟨v, hv, hrv.noFn (depD_noFn hdm), m, hdm, hfm⟩
end
/-- a mark of rows -/
def mkLs (sz : Nat) (mk : Rows → Int → Option (Rows × Int)) : MkC
  | [.row e sz' xs], k => cond (Nat.beq sz' sz) ((mk xs k).map fun q => ([.row e sz q.1], q.2)) none
  | _, _ => none
theorem ListC.cells {P : Program} {f : FuncId} {sz : Nat} {mk : Rows → Int → Option (Rows × Int)} (h : ListC P f sz mk) (hlen : ∀ xs k xs' k', mk xs k = some (xs', k') → xs'.length = xs.length) : CellsC P f false (mkLs sz mk) := by
  intro cs k cs' k' hok hm hk hk2
  unfold mkLs at hm
  split at hm
  · rename_i e sz' xs
    cases hs : Nat.beq sz' sz with
    | false => rw [hs] at hm; cases hm
    | true =>
      rw [hs] at hm
      obtain rfl := beq_true hs
      obtain ⟨⟨xs', k1⟩, h1, h2⟩ := Option.map_eq_some_iff.1 hm
      cases h2
      have hl := hlen _ _ _ _ h1
      refine ⟨⟨rfl, rfl, hl, True.intro⟩, fun w T v us mo GG _ hb hsz hany hrows hgd hmo hlt => ?_⟩
      obtain rfl := hb rfl
      obtain ⟨u, hu, hrow⟩ := hrows 0 e sz' xs rfl
      cases hu
      have hc : ∀ i c k, GG 0 i c k → mo 0 ≠ some k := fun i c k hg => (hlt 0 i c k hg).2 0
      have hi : ∀ i c i' c' k, GG 0 i c k → GG 0 i' c' k → i = i' ∧ c = c' := fun i c i' c' k hg hg' => (hgd _ _ _ _ _ _ _ hg hg').2
      obtain ⟨hr, n, hd, hf⟩ := hrow.forest hc hi
      have hB : ∀ b, Bof (mo 0) (GG 0) b → b < w.heap.size := fun b hb => by
        rcases hb with hb | ⟨i, c, hb⟩
        · obtain ⟨_, ho, _⟩ := hrow
          rw [hb] at ho
          obtain ⟨cap, cur, _, k2, _⟩ := ho
          exact lt_of_blk k2
        · exact (hlt 0 i c b hb).1
      refine (h w v xs (Bof (mo 0) (GG 0)) n k xs' k1 hd hf hr h1 hk hk2 hB).mono fun ex w' ⟨he, hbut, hr', hf'⟩ => ?_
      obtain ⟨G', g1, g2, g3⟩ := hrow.back hbut hl hr' hf'
      refine ⟨he, hbut.mono fun b hb => ?_, fun j => match j with | 0 => G' | _ + 1 => fun _ _ _ => False, fun j i c b hg => ?_, fun j i c i' c' b hg hg' => ?_, fun j e1 sz1 xs1 hj => ?_⟩
      · rcases hb with hb | ⟨i, c, hb⟩
        · exact .inl ⟨0, hb⟩
        · exact .inr ⟨0, i, c, hb⟩
      · cases j with
        | zero => exact g1 i c b hg
        | succ j => exact hg.elim
      · cases j with
        | zero => exact g2 i c i' c' b hg hg'
        | succ j => exact hg.elim
      · cases j with
        | zero => cases hj; exact ⟨v, rfl, g3⟩
        | succ j => simp at hj
  · cases hm
def CellF (w : World) (B : Nat → Prop) (u : Value) (x : D) : Prop := RD w B NT u x ∧ ∃ n, depD n x = true ∧ Fo n w u x B
theorem CellF.but {w w' : World} {B X : Nat → Prop} {u : Value} {x : D} (h : CellF w B u x) (hb : But X w w') (hlt : ∀ k, B k → k < w.heap.size) (hX : ∀ k, B k → ¬ X k) : CellF w' B u x := by
  have hst : ∀ k, B k → w'.heap[k]? = w.heap[k]? := fun k hk => hb.block k (hlt k hk) (hX k hk)
  obtain ⟨hr, n, hd, hf⟩ := h
  exact ⟨hr.mono hst (fun k hk => hk.elim) (fun _ h => h) (fun _ h => h), n, hd, hf.stab hst fun _ h => h⟩
theorem CellF.sub {w : World} {B B' : Nat → Prop} {u : Value} {x : D} (h : CellF w B u x) (hB : ∀ k, B k → B' k) : CellF w B' u x :=
  let ⟨hr, n, hd, hf⟩ := h; ⟨hr.mono (Stab.refl _ _) (Stab.refl _ _) hB fun _ h => h, n, hd, hf.stab (fun _ _ => rfl) hB⟩
theorem alloc_cell (w : World) (cs : Array Value) (t : TypeId) {i : Nat} {v : Value} (h : cs[i]? = some v) : (w.alloc (.cells cs t (0, 0))).cell? ⟨w.heap.size, i, none⟩ = some v := by
  have hg : (w.alloc (.cells cs t (0, 0))).heap[w.heap.size]? = some (.cells cs t (0, 0)) := by
    show (w.heap.push _)[w.heap.size]? = _
    simp
  simp only [World.cell?, hg, Option.isSome_none, Bool.false_eq_true, if_false]
  exact h
theorem But.cell {w w' : World} {X : Nat → Prop} {b off : Nat} {u : Value} (hb : But X w w') (hX : ¬ X b) (h : w.cell? ⟨b, off, none⟩ = some u) : w'.cell? ⟨b, off, none⟩ = some u := by
  have hlt : b < w.heap.size := by
    unfold World.cell? at h
    split at h
    · rename_i hq; exact (Array.getElem?_eq_some_iff.1 hq).1
    · cases h
  rw [← h]
  exact World.cell?_of_block (hb.block b hlt hX)
/-- a mark of a struct's cells -/
def AggC (P : Program) (f : FuncId) (mk : Step1) : Prop :=
  ∀ (w : World) (us : Array Value) (ds : List D) (G : Nat → Nat → Prop) (k : Int) (ds' : List D) (k' : Int), us.size = ds.length → (∀ (c : Nat) x, ds[c]? = some x → ∃ u, us[c]? = some u ∧ RD w (G c) NT u x ∧ ∃ n, depD n x = true ∧ Fo n w u x (G c)) →
    (∀ c c' k, G c k → G c' k → c = c') → (∀ c b, G c b → b < w.heap.size) → mk ds k = some (ds', k') → 0 ≤ k → k' ≤ 4611686018427387904 →
    Calls P f #[.agg us, .int .i64 k] w fun ex w' => ex = .returned (.int .i64 k') ∧ But (fun b => ∃ c, G c b) w w' ∧ ∀ (c : Nat) x, ds'[c]? = some x → ∃ u, us[c]? = some u ∧ RD w' (G c) NT u x ∧ ∃ n, depD n x = true ∧ Fo n w' u x (G c)
def toD : MCell → D
  | .row _ sz xs => .list sz xs
  | .any x => x
def ofD : List MCell → List D → List MCell
  | .row e _ _ :: r, .list sz xs :: ds => .row e sz xs :: ofD r ds
  | .any _ :: r, x :: ds => .any x :: ofD r ds
  | _, _ => []
/-- the same shape -/
def LikeD : List MCell → List D → Prop
  | [], [] => True
  | .row _ sz xs :: r, .list sz' xs' :: ds => sz' = sz ∧ xs'.length = xs.length ∧ LikeD r ds
  | .any x :: r, y :: ds => y = x ∧ LikeD r ds
  | _, _ => False
theorem LikeD.like : ∀ {cs : List MCell} {ds : List D}, LikeD cs ds → LikeM cs (ofD cs ds)
  | [], [], _ => True.intro
  | [], _ :: _, h => h.elim
  | .row _ _ _ :: r, [], h => h.elim
  | .any _ :: r, [], h => h.elim
  | .row e sz xs :: r, .list sz' xs' :: ds, h => ⟨rfl, h.1, h.2.1, h.2.2.like⟩
  | .row e sz xs :: r, .int _ _ :: ds, h => h.elim
  | .row e sz xs :: r, .bool _ :: ds, h => h.elim
  | .row e sz xs :: r, .str _ :: ds, h => h.elim
  | .row e sz xs :: r, .fn _ _ :: ds, h => h.elim
  | .any x :: r, y :: ds, h => ⟨h.1, h.2.like⟩
theorem LikeD.at : ∀ {cs : List MCell} {ds : List D} {j e sz : Nat} {xs : Rows}, LikeD cs ds → (ofD cs ds)[j]? = some (MCell.row e sz xs) → ∃ ys, cs[j]? = some (MCell.row e sz ys) ∧ ds[j]? = some (.list sz xs) ∧ xs.length = ys.length
  | [], [], j, e, sz, xs, _, h => by simp [ofD] at h
  | [], _ :: _, j, e, sz, xs, h, _ => h.elim
  | .row _ _ _ :: r, [], j, e, sz, xs, h, _ => h.elim
  | .any _ :: r, [], j, e, sz, xs, h, _ => h.elim
  | .row e0 sz0 xs0 :: r, .list sz' xs' :: ds, j, e, sz, xs, h, hj => by
    cases j with
    | zero =>
      simp only [ofD, List.getElem?_cons_zero, Option.some.injEq, MCell.row.injEq] at hj
      obtain ⟨rfl, rfl, rfl⟩ := hj
      exact ⟨xs0, by rw [h.1]; rfl, rfl, h.2.1⟩
    | succ j => exact LikeD.at (cs := r) (ds := ds) h.2.2 (by simpa [ofD] using hj)
  | .row e0 sz0 xs0 :: r, .int _ _ :: ds, j, e, sz, xs, h, _ => h.elim
  | .row e0 sz0 xs0 :: r, .bool _ :: ds, j, e, sz, xs, h, _ => h.elim
  | .row e0 sz0 xs0 :: r, .str _ :: ds, j, e, sz, xs, h, _ => h.elim
  | .row e0 sz0 xs0 :: r, .fn _ _ :: ds, j, e, sz, xs, h, _ => h.elim
  | .any x :: r, y :: ds, j, e, sz, xs, h, hj => by
    cases j with
    | zero => simp [ofD] at hj
    | succ j => exact LikeD.at (cs := r) (ds := ds) h.2 (by simpa [ofD] using hj)
def mkAg (mk : Step1) : MkC := fun cs k => (mk (cs.map toD) k).map fun q => (ofD cs q.1, q.2)
theorem AggC.cells {P : Program} {f : FuncId} {mk : Step1} (h : AggC P f mk) (hlike : ∀ cs k ds' k', cs.all MCell.ok = true → mk (cs.map toD) k = some (ds', k') → LikeD cs ds') : CellsC P f true (mkAg mk) := by
  intro cs k cs' k' hok hm hk hk2
  obtain ⟨⟨ds', k1⟩, h1, h2⟩ := Option.map_eq_some_iff.1 hm
  cases h2
  have hlk := hlike _ _ _ _ hok h1
  refine ⟨hlk.like, fun w T v us mo GG hb _ hsz hany hrows hgd hmo hlt => ?_⟩
  obtain rfl := hb rfl
  have hcl : ∀ j i c k, GG j i c k → mo j ≠ some k := fun j i c k hg => (hlt j i c k hg).2 j
  have hin : ∀ j i c i' c' k, GG j i c k → GG j i' c' k → i = i' ∧ c = c' := fun j i c i' c' k hg hg' => (hgd _ _ _ _ _ _ _ hg hg').2
  have hrowlt : ∀ j b, mo j = some b → (∃ e sz xs, cs[j]? = some (MCell.row e sz xs)) → b < w.heap.size := fun j b hm ⟨e, sz, xs, hj⟩ => by
    obtain ⟨u, _, _, ho, _⟩ := hrows j e sz xs hj
    rw [hm] at ho
    obtain ⟨cap, cur, _, k2, _⟩ := ho
    exact lt_of_blk k2
  refine (h w us (cs.map toD) (fun c k => (∃ e sz xs, cs[c]? = some (MCell.row e sz xs)) ∧ Bof (mo c) (GG c) k) k ds' k1 (by simp [hsz]) (fun c x hx => ?_) (fun c c' k hg hg' => ?_) (fun c b hg => ?_) h1 hk hk2).mono fun ex w' ⟨he, hbut, hr'⟩ => ?_
  · rw [List.getElem?_map] at hx
    obtain ⟨y, hy, rfl⟩ := Option.map_eq_some_iff.1 hx
    cases y with
    | row e sz xs =>
      obtain ⟨u, hu, hrow⟩ := hrows c e sz xs hy
      obtain ⟨q1, n, q2, q3⟩ := hrow.forest (hcl c) (hin c)
      exact ⟨u, hu, q1.mono (Stab.refl _ _) (Stab.refl _ _) (fun k hk => ⟨⟨e, sz, xs, hy⟩, hk⟩) (fun _ h => h), n, q2, q3.stab (fun _ _ => rfl) fun k hk => ⟨⟨e, sz, xs, hy⟩, hk⟩⟩
    | any x =>
      obtain ⟨_, u, hu, hr⟩ := hany c x hy
      have hsc : x.scal = true := List.all_eq_true.1 hok _ (List.mem_of_getElem? hy)
      refine ⟨u, hu, ?_, 0, ?_, True.intro⟩
      · show RD w _ NT u x
        cases x with
        | int k n => cases hr; exact .int k n
        | bool b => cases hr; exact .bool b
        | str b =>
          generalize hs : D.str b = X at hr
          cases hr with
          | str b' => exact RD.str b'
          | _ => cases hs
        | _ => cases hsc
      · show depD 0 x = true
        cases x <;> first | rfl | cases hsc
  · obtain ⟨_, hg⟩ := hg
    obtain ⟨_, hg'⟩ := hg'
    rcases hg with hg | ⟨i, a, hg⟩ <;> rcases hg' with hg' | ⟨i', a', hg'⟩
    · exact hmo c c' k hg hg'
    · exact absurd hg ((hlt c' i' a' k hg').2 c)
    · exact absurd hg' ((hlt c i a k hg).2 c')
    · exact (hgd _ _ _ _ _ _ _ hg hg').1
  · obtain ⟨hrw, hg⟩ := hg
    rcases hg with hg | ⟨i, a, hg⟩
    · exact hrowlt c b hg hrw
    · exact (hlt c i a b hg).1
  · -- each row comes back
    have hex : ∀ j : Nat, ∃ G' : Nat → Nat → Nat → Prop, (∀ i c b, G' i c b → ∃ i' c', GG j i' c' b) ∧ (∀ i c i' c' b, G' i c b → G' i' c' b → i = i' ∧ c = c') ∧ ∀ e sz xs, (ofD cs ds')[j]? = some (MCell.row e sz xs) → ∃ u, us[j]? = some u ∧ rowF w' T (mo j) e sz xs u G' := by
      intro j
      by_cases hjr : ∃ e sz xs, (ofD cs ds')[j]? = some (MCell.row e sz xs)
      · obtain ⟨e, sz, xs, hj⟩ := hjr
        obtain ⟨ys, k1, k2, k3⟩ := hlk.at hj
        obtain ⟨u, hu, hrow⟩ := hrows j e sz ys k1
        obtain ⟨u', hu', hr, n, hd, hf⟩ := hr' j _ k2
        rw [hu] at hu'
        cases hu'
        obtain ⟨G', g1, g2, g3⟩ := hrow.back hbut k3 (hr.mono (Stab.refl _ _) (Stab.refl _ _) (fun k hk => hk.2) fun _ h => h) ⟨n, hd, hf.stab (fun _ _ => rfl) fun k hk => hk.2⟩
        exact ⟨G', g1, g2, fun e' sz' xs' hj' => by rw [hj] at hj'; cases hj'; exact ⟨u, hu, g3⟩⟩
      · exact ⟨fun _ _ _ => False, fun _ _ _ h => h.elim, fun _ _ _ _ _ h => h.elim, fun e sz xs hj => absurd ⟨e, sz, xs, hj⟩ hjr⟩
    obtain ⟨GG', hGG⟩ := Classical.axiomOfChoice hex
    refine ⟨he, hbut.mono fun b ⟨c, _, hb⟩ => ?_, GG', fun j => (hGG j).1, fun j => (hGG j).2.1, fun j e sz xs hj => (hGG j).2.2 e sz xs hj⟩
    rcases hb with hb | ⟨i, a, hb⟩
    · exact .inl ⟨c, hb⟩
    · exact .inr ⟨c, i, a, hb⟩
end Ovi

/-! Mke -/
namespace Ovi
open Go Go.RowKit

/-! ### What was marked, row by row -/
theorem mkN_chain {step : Step1} {xs : Rows} {k : Int} : ∀ {m : Nat} {ys : Rows} {k' : Int}, m ≤ xs.length → mkN step m xs k = some (ys, k') →
    ∃ κ : Nat → Int, κ 0 = k ∧ κ m = k' ∧ (∀ i, i < m → ∃ r r', xs[i]? = some r ∧ ys[i]? = some r' ∧ step r (κ i) = some (r', κ (i + 1))) ∧ (∀ i, m ≤ i → ys[i]? = xs[i]?) ∧ ys.length = xs.length
  | 0, ys, k', _, h => by cases h; exact ⟨fun _ => k, rfl, rfl, fun i hi => by omega, fun i _ => rfl, rfl⟩
  | m + 1, ys, k', hm, h => by
    obtain ⟨zs, k1, r, r', h1, h2, h3, rfl⟩ := mkN_succ h
    obtain ⟨κ, q0, q1, q2, q3, q4⟩ := mkN_chain (m := m) (by omega) h1
    refine ⟨fun i => if i ≤ m then κ i else k', by simp [q0], if_neg (by omega), fun i hi => ?_, fun i hi => ?_, by simp [q4]⟩
    · by_cases him : i = m
      · subst him
        refine ⟨r, r', by rw [← q3 i (Nat.le_refl _)]; exact h2, List.getElem?_set_self (by omega), ?_⟩
        show step r (if i ≤ i then κ i else k') = some (r', if i + 1 ≤ i then κ (i + 1) else k')
        rw [if_pos (Nat.le_refl _), if_neg (by omega), q1]
        exact h3
      · obtain ⟨s, s', p1, p2, p3⟩ := q2 i (by omega)
        refine ⟨s, s', p1, by rw [List.getElem?_set_ne (by omega)]; exact p2, ?_⟩
        show step s (if i ≤ m then κ i else k') = some (s', if i + 1 ≤ m then κ (i + 1) else k')
        rw [if_pos (by omega), if_pos (by omega)]
        exact p3
    · rw [List.getElem?_set_ne (by omega)]
      exact q3 i (by omega)
theorem mkRows_chain {step : Step1} {xs ys : Rows} {k k' : Int} (h : mkRows step xs k = some (ys, k')) :
    ∃ κ : Nat → Int, κ 0 = k ∧ κ ys.length = k' ∧ ys.length = xs.length ∧ ∀ i, i < ys.length → ∃ r r', xs[i]? = some r ∧ ys[i]? = some r' ∧ step r (κ i) = some (r', κ (i + 1)) := by
  obtain ⟨κ, q0, q1, q2, _, q4⟩ := mkN_chain (Nat.le_refl _) h
  exact ⟨κ, q0, by rw [q4]; exact q1, q4, fun i hi => q2 i (by omega)⟩
theorem chain_le {step : Step1} (hs : Up step) {xs ys : Rows} {κ : Nat → Int} (h : ∀ i, i < ys.length → ∃ r r', xs[i]? = some r ∧ ys[i]? = some r' ∧ step r (κ i) = some (r', κ (i + 1))) : ∀ {i j : Nat}, i ≤ j → j ≤ ys.length → κ i ≤ κ j := by
  intro i j hij
  induction j with
  | zero => intro _; obtain rfl : i = 0 := by omega
            exact Int.le_refl _
  | succ j ih =>
    intro hj
    by_cases he : i = j + 1
    · subst he; exact Int.le_refl _
    · obtain ⟨r, r', _, _, p3⟩ := h j (by omega)
      exact Int.le_trans (ih (by omega) (by omega)) (hs _ _ _ _ p3).1
/-- marks exist where each row's do -/
theorem mkN_total {step : Step1} {c : List D → Nat} {xs : Rows} (h : ∀ r ∈ xs, ∀ k, ∃ r', step r k = some (r', k + c r)) (k : Int) : ∀ m, m ≤ xs.length → ∃ ys, mkN step m xs k = some (ys, k + ((xs.take m).map c).sum)
  | 0, _ => ⟨xs, by simp [mkN]⟩
  | m + 1, hm => by
    obtain ⟨ys, h1⟩ := mkN_total h k m (by omega)
    obtain ⟨κ, _, _, _, q3, _⟩ := mkN_chain (by omega) h1
    have hx : xs[m]? = some xs[m] := List.getElem?_eq_getElem (by omega)
    obtain ⟨r', h2⟩ := h xs[m] (List.getElem_mem (by omega)) (k + ((xs.take m).map c).sum)
    refine ⟨ys.set m r', ?_⟩
    unfold mkN
    rw [h1]
    simp only [Option.bind_some]
    rw [q3 m (Nat.le_refl _), hx]
    simp only [Option.bind_some, h2, Option.map_some, Option.some.injEq, Prod.mk.injEq, true_and]
    rw [List.take_succ_eq_append_getElem (by omega), List.map_append, List.sum_append]
    simp only [List.map_cons, List.map_nil, List.sum_cons, List.sum_nil, Nat.add_zero, Int.natCast_add, Int.add_assoc]
theorem mkRows_total {step : Step1} {c : List D → Nat} {xs : Rows} (h : ∀ r ∈ xs, ∀ k, ∃ r', step r k = some (r', k + c r)) (k : Int) : ∃ ys, mkRows step xs k = some (ys, k + (xs.map c).sum) := by
  obtain ⟨ys, h1⟩ := mkN_total h k xs.length (Nat.le_refl _)
  rw [List.take_length] at h1
  exact ⟨ys, h1⟩
end Ovi

/-! Mkf -/
namespace Ovi
open Go Go.RowKit
/-! ### The marks of an instance and of a Skolem state keep the shape -/
theorem cell_row {c : MCell} {sz : Nat} {xs : Rows} (ho : c.ok = true) (h : toD c = .list sz xs) : ∃ e, c = .row e sz xs := by
  cases c with
  | row e s x => simp only [toD, D.list.injEq] at h; obtain ⟨rfl, rfl⟩ := h; exact ⟨e, rfl⟩
  | any x => simp only [toD] at h; subst h; cases ho
theorem mkRows_len {step : Step1} {xs ys : Rows} {k k' : Int} (h : mkRows step xs k = some (ys, k')) : ys.length = xs.length := by
  obtain ⟨_, _, _, h, _⟩ := mkRows_chain h
  exact h
theorem likeInst {mt : Int → List UInt8} (cs : List MCell) (k : Int) (ds' : List D) (k' : Int) (ho : cs.all MCell.ok = true) (h : stepInst mt (cs.map toD) k = some (ds', k')) : LikeD cs ds' := by
  obtain ⟨x0, x1, y0, k1, y1, e, h1, h2, rfl⟩ := stepInst_some h
  have hl := congrArg List.length e
  simp only [List.length_map, List.length_cons, List.length_nil] at hl
  match cs, hl with
  | [c0, c1], _ =>
    simp only [List.map_cons, List.map_nil, List.cons.injEq, and_true] at e
    simp only [List.all_cons, List.all_nil, Bool.and_true, Bool.and_eq_true] at ho
    obtain ⟨e0, rfl⟩ := cell_row ho.1 e.1
    obtain ⟨e1, rfl⟩ := cell_row ho.2 e.2
    exact ⟨rfl, mkRows_len h1, rfl, mkRows_len h2, True.intro⟩
theorem likeState {mt : Int → List UInt8} (cs : List MCell) (k : Int) (ds' : List D) (k' : Int) (ho : cs.all MCell.ok = true) (h : stepState mt (cs.map toD) k = some (ds', k')) : LikeD cs ds' := by
  obtain ⟨x0, x1, x2, y0, y1, k1, y2, e, h1, h2, rfl⟩ := stepState_some h
  obtain ⟨z0, z1, w0, k2, w1, e', h3, h4, e2⟩ := stepInst_some h1
  simp only [List.cons.injEq, and_true] at e' e2
  obtain ⟨rfl, rfl⟩ := e'
  obtain ⟨rfl, rfl⟩ := e2
  have hl := congrArg List.length e
  simp only [List.length_map, List.length_cons, List.length_nil] at hl
  match cs, hl with
  | [c0, c1, c2], _ =>
    simp only [List.map_cons, List.map_nil, List.cons.injEq, and_true] at e
    simp only [List.all_cons, List.all_nil, Bool.and_true, Bool.and_eq_true] at ho
    obtain ⟨e0, rfl⟩ := cell_row ho.1 e.1
    obtain ⟨e1, rfl⟩ := cell_row ho.2.1 e.2.1
    obtain ⟨e2, rfl⟩ := cell_row ho.2.2 e.2.2
    exact ⟨rfl, mkRows_len h3, rfl, mkRows_len h4, rfl, mkRows_len h2, True.intro⟩
end Ovi

/-! Mky -/
namespace Ovi
open Go Go.RowKit
/-! ### A query's cells: its output and its atoms -/
def stepQuery : Step1
  | [.list 1 rs, .list 2 fs], k => (mkRows stepInt rs k).bind fun p => (mkRows stepFact fs p.2).map fun q => ([.list 1 p.1, .list 2 q.1], q.2)
  | _, _ => none
theorem stepQuery_some {r r' : List D} {k k' : Int} (h : stepQuery r k = some (r', k')) : ∃ x0 x1 y0 k1 y1, r = [.list 1 x0, .list 2 x1] ∧ mkRows stepInt x0 k = some (y0, k1) ∧ mkRows stepFact x1 k1 = some (y1, k') ∧ r' = [.list 1 y0, .list 2 y1] := by
  unfold stepQuery at h
  split at h
  · rename_i rs fs
    obtain ⟨p, h1, h2⟩ := Option.bind_eq_some_iff.1 h
    obtain ⟨q, h3, h4⟩ := Option.map_eq_some_iff.1 h2
    cases h4
    exact ⟨rs, fs, p.1, p.2, q.1, rfl, h1, h3, rfl⟩
  · cases h
theorem likeQuery (cs : List MCell) (k : Int) (ds' : List D) (k' : Int) (ho : cs.all MCell.ok = true) (h : stepQuery (cs.map toD) k = some (ds', k')) : LikeD cs ds' := by
  obtain ⟨x0, x1, y0, k1, y1, e, h1, h2, rfl⟩ := stepQuery_some h
  have hl := congrArg List.length e
  simp only [List.length_map, List.length_cons, List.length_nil] at hl
  match cs, hl with
  | [c0, c1], _ =>
    simp only [List.map_cons, List.map_nil, List.cons.injEq, and_true] at e
    simp only [List.all_cons, List.all_nil, Bool.and_true, Bool.and_eq_true] at ho
    obtain ⟨e0, rfl⟩ := cell_row ho.1 e.1
    obtain ⟨e1, rfl⟩ := cell_row ho.2 e.2
    exact ⟨rfl, mkRows_len h1, rfl, mkRows_len h2, True.intro⟩
end Ovi

/-! Mkx -/
namespace Ovi
open Go Go.RowKit
/-! ### A query with an inequality: the query's cells and two numbers that stay -/
def stepIneq : Step1
  | [.list 1 rs, .list 2 fs, .int .i64 y, .int .i64 z], k => (mkRows stepInt rs k).bind fun p => (mkRows stepFact fs p.2).map fun q => ([.list 1 p.1, .list 2 q.1, .int .i64 y, .int .i64 z], q.2)
  | _, _ => none
theorem stepIneq_some {r r' : List D} {k k' : Int} (h : stepIneq r k = some (r', k')) : ∃ x0 x1 y z y0 k1 y1, r = [.list 1 x0, .list 2 x1, .int .i64 y, .int .i64 z] ∧ mkRows stepInt x0 k = some (y0, k1) ∧ mkRows stepFact x1 k1 = some (y1, k') ∧ r' = [.list 1 y0, .list 2 y1, .int .i64 y, .int .i64 z] := by
  unfold stepIneq at h
  split at h
  · rename_i rs fs y z
    obtain ⟨p, h1, h2⟩ := Option.bind_eq_some_iff.1 h
    obtain ⟨q, h3, h4⟩ := Option.map_eq_some_iff.1 h2
    cases h4
    exact ⟨rs, fs, y, z, p.1, p.2, q.1, rfl, h1, h3, rfl⟩
  · cases h
theorem likeIneq (cs : List MCell) (k : Int) (ds' : List D) (k' : Int) (ho : cs.all MCell.ok = true) (h : stepIneq (cs.map toD) k = some (ds', k')) : LikeD cs ds' := by
  obtain ⟨x0, x1, y, z, y0, k1, y1, e, h1, h2, rfl⟩ := stepIneq_some h
  have hl := congrArg List.length e
  simp only [List.length_map, List.length_cons, List.length_nil] at hl
  match cs, hl with
  | [c0, c1, c2, c3], _ =>
    simp only [List.map_cons, List.map_nil, List.cons.injEq, and_true] at e
    simp only [List.all_cons, List.all_nil, Bool.and_true, Bool.and_eq_true] at ho
    obtain ⟨e0, rfl⟩ := cell_row ho.1 e.1
    obtain ⟨e1, rfl⟩ := cell_row ho.2.1 e.2.1
    have r2 : c2 = .any (.int .i64 y) := by
      cases c2 with
      | row _ _ _ => cases e.2.2.1
      | any x => exact congrArg MCell.any e.2.2.1
    have r3 : c3 = .any (.int .i64 z) := by
      cases c3 with
      | row _ _ _ => cases e.2.2.2
      | any x => exact congrArg MCell.any e.2.2.2
    subst r2 r3
    exact ⟨rfl, mkRows_len h1, rfl, mkRows_len h2, rfl, rfl, True.intro⟩
end Ovi

/-! Sd -/
namespace Ovi
open Go Go.RowKit
/-! ### A law's own arguments, as seeds -/
def seedL : AV → AV
  | .d (.list sz l) => .s sz l
  | a => a
def seedA : AV → AV
  | .agg l => .agg (l.map seedL)
  | a => seedL a
section
variable {w : World} {hp : Hp} {m : MapM}
theorem leaf_seed {u : Value} {a : AV} (h : leafC w (Here w) (Here w) hp m u a) : leafC w (Here w) (Here w) hp m u (seedL a) := by
  cases a with
  | d x =>
    cases x with
    | list sz l => exact ⟨h, fun _ h => h, h⟩
    | _ => exact h
  | _ => exact h
theorem AC_seed {u : Value} {a : AV} (h : AC w (Here w) (Here w) hp m u a) : AC w (Here w) (Here w) hp m u (seedA a) := by
  cases a with
  | agg l =>
    obtain ⟨vs, h1, h2, h3⟩ := h
    refine ⟨vs, h1, by simp [h2], fun j a ha => ?_⟩
    rw [List.getElem?_map] at ha
    obtain ⟨b, hb, rfl⟩ := Option.map_eq_some_iff.1 ha
    obtain ⟨v, hv, hl⟩ := h3 j b hb
    exact ⟨v, hv, leaf_seed hl⟩
  | d x =>
    cases x with
    | list sz l => exact ⟨h, fun _ h => h, h⟩
    | _ => exact h
  | _ => exact h
end
end Ovi

/-! Rsd -/
namespace Ovi
open Go Go.RowKit
/-! ### A law goes on from a state without claims: all that stands frozen may serve as seeds from here on -/
def noQ : Blk → Bool
  | .var _ => true
  | .arr _ _ _ _ q => Nat.beq q.1 0
  | .frz _ _ _ => false
def seedT (l : List (Nat × AV)) : List (Nat × AV) := l.map fun p => (p.1, seedA p.2)
def seedH (bs : List NB) : Bool := nodupB (bs.map fun b => b.1) && (nodupB (srcs bs) && bs.all fun b => noQ b.2.2)
def reseed (call : CallF) (h : LoopHint) (σ : St) : Option St := match (keepTm σ.tm h).run call σ.hp [] with
  | some (l, hp, _) => match restL hp l with
    | some (vs, bs) => cond (seedH bs) (some { tm := assoc (seedT vs), hp := hpOf (bs.map fun b => (b.1, b.2.2)) }) none
    | none => none
  | none => none
def reseedK {R : Type} (call : CallF) (h : LoopHint) (tm : Tm) (hp : Hp) (K : Tm → Hp → Option R) : Option R :=
  (keepTm tm h).runK call hp [] fun l hp' _ => match restL hp' l with
    | some (vs, bs) => cond (seedH bs) (K (assoc (seedT vs)) (hpOf (bs.map fun b => (b.1, b.2.2)))) none
    | none => none
theorem reseedK_eq {R : Type} (call : CallF) (h : LoopHint) (σ : St) (K : Tm → Hp → Option R) : reseedK call h σ.tm σ.hp K = (reseed call h σ).bind fun r => K r.tm r.hp := by
  unfold reseedK reseed
  rw [HA.runK_eq]
  cases (keepTm σ.tm h).run call σ.hp [] with
  | none => rfl
  | some x =>
    simp only [Option.bind_some]
    cases restL x.2.1 x.1 with
    | none => rfl
    | some y =>
      obtain ⟨vs, bs⟩ := y
      simp only []
      cases seedH bs <;> rfl
section
variable (P : Program) (hs : Hints) (call : CallF) (fid : FuncId) (rs : Nat → Option LoopHint)
def evCodeR (k : Nat) : Code → St → Option (Ex × St)
  | .region id ops draw, σ => match rs id with
    | some h => match reseed call h σ with
      | some σ' => evCode P hs call fid k (.region id ops draw) σ'
      | none => none
    | none => evCode P hs call fid k (.region id ops draw) σ
  | .seq a b, σ => match evCodeR k a σ with
    | some (.normal, σ') => evCodeR k b σ'
    | r => r
  | .cond c a b, σ => match absOperand σ.tm c with
    | some (.d (.bool t)) => cond t (evCodeR k a σ) (evCodeR k b σ)
    | _ => none
  | .block id c, σ => match evCodeR k c σ with
      | some (.exit i, σ') => cond (Nat.beq i id) (some (.normal, σ')) (some (.exit i, σ'))
      | r => r
  | c, σ => evCode P hs call fid k c σ
def evCodeRK {R : Type} (k : Nat) : Code → Tm → Hp → Cont R → Option R
  | .region id ops draw, tm, hp, K => match rs id with
    | some h => reseedK call h tm hp fun tm' hp' => evCodeK P hs call fid k (.region id ops draw) tm' hp' K
    | none => evCodeK P hs call fid k (.region id ops draw) tm hp K
  | .seq a b, tm, hp, K => evCodeRK k a tm hp (seqK (evCodeRK k b) K)
  | .cond c a b, tm, hp, K => match absOperand tm c with
    | some (.d (.bool t)) => ite' t (evCodeRK k a tm hp K) (evCodeRK k b tm hp K)
    | _ => none
  | .block id c, tm, hp, K => evCodeRK k c tm hp (blockK id K)
  | c, tm, hp, K => evCodeK P hs call fid k c tm hp K
def evFnR (k : Nat) (fn : Func) (args : List AV) : Option Res :=
  match fn.body with
  | none => none
  | some c => match evCodeR P hs call fid rs k c (enter args) with
    | some (.normal, σ) => finish P hs call fid fn σ
    | some (.ret, σ) => finish P hs call fid fn σ
    | _ => none
def evFnRK (k : Nat) (fn : Func) (args : List AV) : Option Res := evCodeRK P hs call fid rs k (bodyOf fn) (argTm args 0) (fun _ => none) (endK P hs call fid fn)
theorem evCodeRK_eq {R : Type} (k : Nat) : ∀ (c : Code) (σ : St) (K : Cont R), evCodeRK P hs call fid rs k c σ.tm σ.hp K = (evCodeR P hs call fid rs k c σ).bind fun r => K r.1 r.2.tm r.2.hp := by
  intro c
  induction c with
  | region id ops draw =>
    intro σ K
    unfold evCodeRK evCodeR
    cases rs id with
    | none => exact evCodeK_eq P call hs fid k _ σ K
    | some h =>
      simp only []
      rw [reseedK_eq]
      cases reseed call h σ with
      | none => rfl
      | some σ' => exact evCodeK_eq P call hs fid k _ σ' K
  | seq x y ihx ihy =>
    intro σ K
    unfold evCodeRK evCodeR
    rw [ihx]
    cases evCodeR P hs call fid rs k x σ with
    | none => rfl
    | some r =>
      obtain ⟨e, σ'⟩ := r
      cases e with
      | normal => exact ihy σ' K
      | ret => rfl
      | exit i => rfl
  | cond c x y ihx ihy =>
    intro σ K
    unfold evCodeRK evCodeR
    split
    · rename_i t ht
      cases t with
      | true => exact ihx σ K
      | false => exact ihy σ K
    · rfl
  | block id c ih =>
    intro σ K
    unfold evCodeRK evCodeR
    rw [ih]
    cases evCodeR P hs call fid rs k c σ with
    | none => rfl
    | some r =>
      obtain ⟨e, σ'⟩ := r
      cases e with
      | normal => rfl
      | ret => rfl
      | exit i =>
        simp only [Option.bind_some, blockK]
        cases Nat.beq i id <;> rfl
  | _ => intro σ K; exact evCodeK_eq P call hs fid k _ σ K
theorem evFnRK_eq (k : Nat) (fn : Func) (args : List AV) : evFnRK P hs call fid rs k fn args = match fn.body with | some _ => evFnR P hs call fid rs k fn args | none => evFnRK P hs call fid rs k fn args := by
  cases hb : fn.body with
  | none => rfl
  | some c =>
    unfold evFnRK evFnR bodyOf
    rw [hb]
    simp only []
    rw [show argTm args 0 = (enter args).tm from rfl, show (fun _ => none : Hp) = (enter args).hp from rfl, evCodeRK_eq P hs call fid rs k c (enter args) (endK P hs call fid fn)]
    cases evCodeR P hs call fid rs k c (enter args) with
    | none => rfl
    | some r =>
      obtain ⟨e, σ⟩ := r
      have fin : finishK P hs call fid fn σ.tm σ.hp = finish P hs call fid fn σ := by
        unfold finishK finish
        rw [HA.runK_eq]
        cases (expAll P (hs.sig fid) σ.tm fn.results.toList).run call σ.hp [] <;> rfl
      cases e with
      | normal => exact fin
      | ret => exact fin
      | exit i => rfl
end
section
variable {w : World} {S T T' : Nat → Prop} {hp : Hp} {m : MapM}
theorem capC.moreT (hT : ∀ k, T k → T' k) {v : Value} {a : AV} (h : capC w S T hp m v a) : capC w S T' hp m v a := by
  cases a with
  | var id off => exact h
  | cap xs off => exact CellsAt.mono (Stab.refl _ _) (Stab.refl _ _) (Stab.refl _ _) hT (fun _ h => h) hT h
  | _ => exact h.elim
theorem leafC.moreT (hT : ∀ k, T k → T' k) (hS : ∀ k, T' k → S k) {v : Value} {a : AV} (h : leafC w S T hp m v a) : leafC w S T' hp m v a := by
  have rd : ∀ {B : Nat → Prop} {v : Value} {x : D}, RD w B T v x → RD w B T' v x := fun h => h.mono (Stab.refl _ _) (Stab.refl _ _) (fun _ h => h) hT
  cases a with
  | d x => exact rd h
  | pv sz l id ver cv i => exact ⟨rd h.1, h.2⟩
  | s sz l => exact ⟨rd h.1, hS, h.2.2.mono (Stab.refl _ _) (Stab.refl _ _) hT hT⟩
  | nil _ => exact h
  | own id ver =>
    simp only [leafC] at h ⊢
    refine ⟨h.1, ?_⟩
    replace h := h.2
    cases hid : hp id with
    | none => rw [hid] at h; exact h
    | some blk =>
      rw [hid] at h
      cases blk with
      | var cs => exact h
      | arr e sz ver' xs q => exact h
      | frz sz ver' xs => exact fun e => rd (h e)
  | var id off => exact h
  | el id ver i off =>
    simp only [leafC] at h ⊢
    refine ⟨h.1, ?_⟩
    replace h := h.2
    cases hid : hp id with
    | none => rw [hid] at h; exact h
    | some blk =>
      rw [hid] at h
      cases blk with
      | var cs => exact h
      | arr e sz ver' xs q => exact h
      | frz sz ver' xs => exact fun e => CellsAt.mono (Stab.refl _ _) (Stab.refl _ _) (Stab.refl _ _) (fun _ h => h) (fun _ h => h) hT (h e)
  | imm l i off => exact CellsAt.mono (Stab.refl _ _) (Stab.refl _ _) (Stab.refl _ _) (fun _ h => h) (fun _ h => h) hT h
  | cap xs off => exact CellsAt.mono (Stab.refl _ _) (Stab.refl _ _) (Stab.refl _ _) hT (fun _ h => h) hT h
  | fn f caps =>
    obtain ⟨vs, h1, h2, h3⟩ := h
    exact ⟨vs, h1, h2, fun j a ha => let ⟨u, hu, hc⟩ := h3 j a ha; ⟨u, hu, hc.moreT hT⟩⟩
  | agg _ => exact h
  | tup _ => exact h
theorem leafC.seed {v : Value} {a : AV} (h : leafC w S S hp m v a) : leafC w S S hp m v (seedL a) := by
  cases a with
  | d x =>
    cases x with
    | list sz l => exact ⟨h, fun _ h => h, h⟩
    | _ => exact h
  | _ => exact h
theorem AC.reseed (hT : ∀ k, T k → S k) {v : Value} {a : AV} (h : AC w S T hp m v a) : AC w S S hp m v (seedA a) := by
  have lf : ∀ {v : Value} {a : AV}, leafC w S T hp m v a → leafC w S S hp m v a := fun h => h.moreT hT (fun _ h => h)
  have vl : ∀ {v : Value} {a : AV}, valC w S T hp m v a → valC w S S hp m v a := by
    intro v a h
    cases a with
    | agg cs =>
      obtain ⟨vs, h1, h2, h3⟩ := h
      exact ⟨vs, h1, h2, fun j a ha => let ⟨u, hu, hc⟩ := h3 j a ha; ⟨u, hu, lf hc⟩⟩
    | d x => exact lf (a := .d x) h
    | pv x1 x2 x3 x4 x5 x6 => exact lf (a := .pv x1 x2 x3 x4 x5 x6) h
    | s x1 x2 => exact lf (a := .s x1 x2) h
    | nil x1 => exact lf (a := .nil x1) h
    | own x1 x2 => exact lf (a := .own x1 x2) h
    | var x1 x2 => exact lf (a := .var x1 x2) h
    | el x1 x2 x3 x4 => exact lf (a := .el x1 x2 x3 x4) h
    | imm x1 x2 x3 => exact lf (a := .imm x1 x2 x3) h
    | cap x1 x2 => exact lf (a := .cap x1 x2) h
    | fn x1 x2 => exact lf (a := .fn x1 x2) h
    | tup x1 => exact h.elim
  cases a with
  | tup l =>
    obtain ⟨vs, h1, h2, h3⟩ := h
    exact ⟨vs, h1, h2, fun j a ha => let ⟨u, hu, hc⟩ := h3 j a ha; ⟨u, hu, vl hc⟩⟩
  | agg cs =>
    obtain ⟨vs, h1, h2, h3⟩ := h
    refine ⟨vs, h1, by simp [h2], fun j a ha => ?_⟩
    rw [List.getElem?_map] at ha
    obtain ⟨b, hb, rfl⟩ := Option.map_eq_some_iff.1 ha
    obtain ⟨u, hu, hc⟩ := h3 j b hb
    exact ⟨u, hu, (lf hc).seed⟩
  | d x =>
    have h1 : leafC w S S hp m v (.d x) := lf (a := .d x) h
    cases x with
    | list sz l => exact ⟨h1, fun _ h => h, h1⟩
    | _ => exact h1
  | pv x1 x2 x3 x4 x5 x6 => exact lf (a := .pv x1 x2 x3 x4 x5 x6) h
  | s x1 x2 => exact lf (a := .s x1 x2) h
  | nil x1 => exact lf (a := .nil x1) h
  | own x1 x2 => exact lf (a := .own x1 x2) h
  | var x1 x2 => exact lf (a := .var x1 x2) h
  | el x1 x2 x3 x4 => exact lf (a := .el x1 x2 x3 x4) h
  | imm x1 x2 x3 => exact lf (a := .imm x1 x2 x3) h
  | cap x1 x2 => exact lf (a := .cap x1 x2) h
  | fn x1 x2 => exact lf (a := .fn x1 x2) h
theorem Inv.reseed {base : Nat} {w0 : World} {S0 : Nat → Prop} (h : Inv base w0 w S0 S T hp m) (hT : ∀ k, T k → S k) (hq : ∀ id blk, hp id = some blk → noQ blk = true) : Inv base w0 w S0 S S hp m where
  below := h.below
  bsz := h.bsz
  tlt := fun k hk => .inr hk
  s0 := h.s0
  s1 := h.s1
  s0lt := h.s0lt
  slt := h.slt
  rng := h.rng
  inj := h.inj
  var := fun id cs hid => let ⟨b, c, e, h1, h2, h3⟩ := h.var id cs hid; ⟨b, c, e, h1, h2, h3.mono fun v a ha => ha.moreT hT fun _ h => h⟩
  arr := fun id e sz ver xs q hid => by
    obtain ⟨h1, h2⟩ := h.arr id e sz ver xs q hid
    refine ⟨h1, ?_⟩
    cases hm : m id with
    | none => rw [hm] at h2; exact h2
    | some b =>
      rw [hm] at h2
      obtain ⟨cur, hc, hl, hk⟩ := h2
      exact ⟨cur, hc, hl, fun i c x hx => ⟨(hk i c x hx).1, let ⟨v, hv, hr⟩ := (hk i c x hx).2; ⟨v, hv, hr.mono (Stab.refl _ _) (Stab.refl _ _) (fun _ h => h) hT⟩⟩⟩
  cl := ⟨fun _ _ _ _ => False, fun _ _ _ _ h => h.elim, fun _ _ _ _ _ _ _ h => h.elim, fun id e sz ver xs d lo cv b cur hid hd => by
    have := hq id _ hid
    have := beq_true (show Nat.beq d 0 = true from this)
    omega⟩
end
theorem assoc_map (f : AV → AV) : ∀ (l : List (Nat × AV)) (i : Nat), assoc (l.map fun p => (p.1, f p.2)) i = (assoc l i).map f
  | [], i => rfl
  | (t, v) :: r, i => by
    simp only [List.map_cons, assoc]
    cases Nat.beq i t with
    | true => rfl
    | false => exact assoc_map f r i
section
variable {P : Program} {G : Gd} {ds : List Oper → Bool} {call : CallF} {base N : Nat} {w0 w : World} {S0 T : Nat → Prop} {hs : Hints} {fid : FuncId} {k : Nat} {rs : Nat → Option LoopHint} {σ σ' : St} {a : Act}
theorem reseed_ok {h : LoopHint} (hR : Rel base w0 S0 T N σ a w) (hT : ∀ k, T k → k < base → S0 k) (hc : reseed call h σ = some σ') : ∃ T', (∀ k, T k → T' k) ∧ (∀ k, T' k → k < base → S0 k) ∧ Rel base w0 S0 T' N σ' a w := by
  unfold reseed at hc
  cases hrun : (keepTm σ.tm h).run call σ.hp [] with
  | none => rw [hrun] at hc; cases hc
  | some x =>
    obtain ⟨lst, hp1, l1⟩ := x
    rw [hrun] at hc
    simp only [] at hc
    cases hrest : restL hp1 lst with
    | none => rw [hrest] at hc; cases hc
    | some y =>
      obtain ⟨vs, bs⟩ := y
      rw [hrest] at hc
      simp only [] at hc
      cases hm : seedH bs with
      | false => rw [hm] at hc; cases hc
      | true =>
        rw [hm] at hc
        simp only [cond_true, Option.some.injEq] at hc
        subst hc
        simp only [seedH, Bool.and_eq_true] at hm
        obtain ⟨n1, n2, n3⟩ := hm
        have hR1 : Rel base w0 S0 T N { tm := assoc vs, hp := hpOf (bs.map fun b => (b.1, b.2.2)) } a w := clean_ok (call := call) hR (h := h) (by
          unfold clean
          rw [hrun]
          simp only [restOf, hrest, n1, n2, Bool.and_self, cond_true])
        obtain ⟨r1, r2, S, m, hI, hTm⟩ := hR1
        have hTS : ∀ k, T k → S k := fun k hk => by
          rcases hI.tlt k hk with h1 | h1
          · exact hI.s0 k (hT k hk h1)
          · exact h1
        refine ⟨S, hTS, fun k hk hl => ?_, r1, r2, S, m, hI.reseed hTS fun id blk hid => ?_, fun t x hx => ?_⟩
        · rcases hI.s1 k hk with h1 | h1
          · exact h1
          · omega
        · simp only [hpOf_eq] at hid
          obtain ⟨nb, hnb, he⟩ := List.mem_map.1 (mem_assoc hid)
          cases he
          exact List.all_eq_true.1 n3 nb hnb
        · simp only [seedT, assoc_map] at hx
          obtain ⟨y, hy, rfl⟩ := Option.map_eq_some_iff.1 hx
          obtain ⟨v, hv, hac⟩ := hTm t y hy
          exact ⟨v, hv, hac.reseed hTS⟩
theorem evCodeR_ok (hD : DrawSound P G ds) (hC : SoundAt P G call w0 S0) : ∀ (c : Code) {T : Nat → Prop} {σ σ' : St} {a : Act} {w : World} {e : Ex} {Q : Exit → Act → World → Prop}, (∀ k, T k → k < base → S0 k) → codeOk ds N c = true → Rel base w0 S0 T N σ a w → evCodeR P hs call fid rs k c σ = some (e, σ') →
    (∀ a' w' T', (∀ k, T' k → k < base → S0 k) → Rel base w0 S0 T' N σ' a' w' → Q (toExit e) a' w') → c.wp P Q a w := by
  intro c
  induction c with
  | region id ops draw =>
    intro T σ σ' a w e Q hT hc hR h hQ
    unfold evCodeR at h
    split at h
    · split at h
      · rename_i σ1 h1
        obtain ⟨T', _, t2, hR'⟩ := reseed_ok hR hT h1
        exact evCode_ok hD hC _ hc hR' h fun a' w' hR2 => hQ a' w' T' t2 hR2
      · cases h
    · exact evCode_ok hD hC _ hc hR h fun a' w' hR2 => hQ a' w' T hT hR2
  | seq x y ihx ihy =>
    intro T σ σ' a w e Q hT hc hR h hQ
    simp only [codeOk, Bool.and_eq_true] at hc
    unfold evCodeR at h
    split at h
    · rename_i σ1 hx
      exact wp_seq (ihx hT hc.1 hR hx fun a' w' T' hT' hR' => ihy hT' hc.2 hR' h hQ)
    · rename_i hne
      refine wp_seq (ihx hT hc.1 hR h fun a' w' T' hT' hR' => ?_)
      cases e with
      | normal => exact absurd h (hne σ')
      | ret => exact hQ a' w' T' hT' hR'
      | exit i => exact hQ a' w' T' hT' hR'
  | cond c x y ihx ihy =>
    intro T σ σ' a w e Q hT hc hR h hQ
    simp only [codeOk, Bool.and_eq_true] at hc
    unfold evCodeR at h
    split at h
    · rename_i t ht
      have hb : a.eval c = .bool t := by
        obtain ⟨_, _, S, m, _, hT⟩ := hR
        exact bool_inv (operand_ok hT ht)
      cases t with
      | true => exact wp_cond_true hb (ihx hT hc.1 hR h hQ)
      | false => exact wp_cond_false hb (ihy hT hc.2 hR h hQ)
    · cases h
  | block id c ih =>
    intro T σ σ' a w e Q hT hc hR h hQ
    simp only [codeOk] at hc
    unfold evCodeR at h
    split at h
    · rename_i i σ1 hx
      refine wp_block (ih hT hc hR hx fun a' w' T' hT' hR' => ?_)
      cases hb : Nat.beq i id with
      | true =>
        rw [hb] at h
        cases h
        simp only [toExit, Exit.inBlock, beq_true hb, if_true]
        exact hQ a' w' T' hT' hR'
      | false =>
        rw [hb] at h
        cases h
        have hne : i ≠ id := fun e => by rw [e] at hb; simp at hb
        simp only [toExit, Exit.inBlock, hne, if_false]
        exact hQ a' w' T' hT' hR'
    · rename_i hne
      refine wp_block (ih hT hc hR h fun a' w' T' hT' hR' => ?_)
      cases e with
      | normal => exact hQ a' w' T' hT' hR'
      | ret => exact hQ a' w' T' hT' hR'
      | exit i => exact absurd h (hne i σ')
  | _ =>
    intro T σ σ' a w e Q hT hc hR h hQ
    exact evCode_ok hD hC _ hc hR h fun a' w' hR2 => hQ a' w' T hT hR2
/-- a law, with its seeds laid anew on the way -/
theorem calls_yesR (hD : DrawSound P G ds) (hP : OkProg P ds) (hC : Sound P G call) {f k : Nat} {fn : Func} {args : List AV} (hfn : P.funcs[f]? = some fn) (hb : fn.body.isSome = true)
    (h : evFnRK P hs call f rs k fn args = some yes) {vs : Array Value} (hl : Leaves (AC w (Here w) (Here w) (fun _ => none) (fun _ => none)) vs args) (hG : G.pr (Here w) w) :
    Calls P f vs w fun e w' => e = .returned (.bool true) ∧ Below w.heap.size w w' := by
  rw [evFnRK_eq] at h
  cases hbd : fn.body with
  | none => rw [hbd] at hb; cases hb
  | some c =>
    rw [hbd] at h
    simp only [] at h
    unfold evFnR at h
    rw [hbd] at h
    simp only [] at h
    have hR : Rel w.heap.size w (Here w) (Here w) (vs ++ Array.replicate (fn.ntmps - vs.size) undef).size (enter args) { tmps := vs ++ Array.replicate (fn.ntmps - vs.size) undef, defers := [] } w := by
      refine ⟨rfl, rfl, Here w, fun _ => none, { below := Below.refl _ _, bsz := Nat.le_refl _, tlt := fun k hk => .inl hk, s0 := fun _ h => h, s1 := fun _ h => .inl h, s0lt := fun _ h => h, slt := fun _ h => h, rng := fun i b h => by simp [enter, hot] at h, inj := fun i j b h => by simp [enter, hot] at h, var := fun i cs h => by simp [enter] at h, arr := fun i e sz ver xs q h => by simp [enter] at h, cl := ⟨fun _ _ _ _ => False, fun _ _ _ _ h => h.elim, fun _ _ _ _ _ _ _ h => h.elim, fun i e sz ver xs d lo cv b cur h => by simp [enter] at h⟩ }, fun t a ha => ?_⟩
      simp only [enter, argTm_eq, Nat.zero_le, if_true, Nat.sub_zero] at ha
      obtain ⟨u, hu, hc⟩ := hl.2 t a ha
      exact ⟨u, by rw [Array.getElem?_append_left (Array.getElem?_eq_some_iff.1 hu).1]; exact hu, hc⟩
    have hsz : fn.ntmps ≤ (vs ++ Array.replicate (fn.ntmps - vs.size) undef).size := by simp; omega
    have hco := codeOk_mono (ds := ds) hsz (hP.code f fn c hfn hbd)
    have fin : ∀ (σ : St) (a' : Act) (w' : World) (T' : Nat → Prop), finish P hs call f fn σ = some yes → Rel w.heap.size w (Here w) T' (vs ++ Array.replicate (fn.ntmps - vs.size) undef).size σ a' w' →
        a'.defers = [] ∧ ∃ v, (results fn a'.tmps).run P w' = .ok v w' ∧ Ending.returned v = .returned (.bool true) ∧ Below w.heap.size w w' := by
      intro σ a' w' T' hf ⟨h1, h2, S', m, hI, hTm⟩
      refine ⟨h1, ?_⟩
      unfold finish at hf
      split at hf
      · rename_i r' hp' l' hrun
        cases hf
        obtain ⟨asv, h3, l3, hv, g⟩ := bind_some hrun
        obtain ⟨rfl, us, hus, n1, c1⟩ := resVals_ok hI hTm hv
        obtain ⟨_, n2, ids, o1, o2, o3⟩ := expVals_ok hI (us := us) (SubH.refl _) n1 c1 g
        refine ⟨_, run_results hus, ?_, hI.below⟩
        simp only [yes, List.length_cons, List.length_nil] at n2
        obtain ⟨u, hu, hone⟩ := o1 0 _ rfl
        have hlen : us.length = 1 := by omega
        obtain ⟨u', rfl⟩ := List.length_eq_one_iff.1 hlen
        simp only [List.getElem?_cons_zero, Option.some.injEq] at hu
        subst hu
        obtain ⟨l, hl, hrl⟩ := hone
        cases hl
        cases hrl
        rfl
      · cases hf
    refine calls_of_wp hfn hbd ?_
    split at h
    · rename_i σ he
      exact evCodeR_ok hD ⟨hC, hG⟩ c (fun k hk _ => hk) hco hR he fun a' w' T' _ hR' => fin σ a' w' T' h hR'
    · rename_i σ he
      exact evCodeR_ok hD ⟨hC, hG⟩ c (fun k hk _ => hk) hco hR he fun a' w' T' _ hR' => fin σ a' w' T' h hR'
    · cases h
end
end Ovi

/-! UB -/
namespace Go.Proofs.YthicohakeljdcaaGreat.Q
open Go Ovi
noncomputable abbrev P := Tryz.prog
def sg : FuncId → Sig := fun f => match f with
  | 3 => [(false, [.bool])]
  | 4 => [(false, [.bool])]
  | 5 => [(false, [.bool])]
  | 6 => [(false, [.bool])]
  | 7 => [(false, [.bool])]
  | 8 => [(false, [.bool])]
  | 9 => [(false, [.bool])]
  | 10 => [(false, [.bool])]
  | 11 => [(false, [.bool])]
  | 12 => [(false, [.int .i64])]
  | 13 => [(true, [.xown 133 3 0, .xown 118 2 1]), (false, [.bool])]
  | 14 => [(true, [.own 133 3, .fown 118 2 1])]
  | 15 => [(true, [.xown 133 3 0, .xown 118 2 1]), (false, [.bool])]
  | 16 => [(false, [.bool])]
  | 17 => [(false, [.int .i64])]
  | 18 => [(false, [.int .i64])]
  | 19 => [(true, [.xown 133 3 0, .xown 118 2 1]), (false, [.bool])]
  | 20 => [(true, [.xown 133 3 0, .xown 118 2 1]), (false, [.bool])]
  | 21 => [(false, [.int .i64])]
  | 22 => [(false, [.int .i64])]
  | 23 => [(true, [.xown 133 3 0, .xown 118 2 1]), (false, [.bool])]
  | 24 => [(false, [.own 133 3])]
  | 25 => [(true, [.own 3 1, .fown 130 2 1])]
  | 26 => [(true, [.xown 133 3 0, .xown 118 2 1]), (false, [.bool])]
  | 27 => [(false, [.bool])]
  | 28 => [(false, [.bool])]
  | 29 => [(false, [.int .i64])]
  | 30 => [(false, [.int .i64])]
  | 31 => [(false, [.ro 1])]
  | 32 => [(false, [.xown 39 1 1])]
  | 33 => [(false, [.bool])]
  | 34 => [(false, [.int .i64])]
  | 35 => [(false, [.int .i64])]
  | 36 => [(false, [.ro 1])]
  | 37 => [(false, [.xown 39 1 1])]
  | 38 => [(false, [.int .i64])]
  | 39 => [(false, [.ro 1])]
  | 40 => [(true, [.own 3 1, .fown 130 2 1, .int .i64, .int .i64])]
  | 41 => [(false, [.xown 39 1 1])]
  | 42 => [(false, [.bool])]
  | 43 => [(false, [.int .i64])]
  | 44 => [(false, [.int .i64])]
  | 45 => [(false, [.int .i64])]
  | 46 => [(true, [.xown 133 3 0, .xown 118 2 1]), (false, [.int .i64]), (false, [.bool])]
  | 47 => [(false, [.fown 157 5 2])]
  | 48 => [(false, [.fown 154 2 1])]
  | 49 => [(true, [.xown 133 3 0, .xown 118 2 1]), (false, [.int .i64]), (false, [.bool])]
  | 50 => [(false, [.bool])]
  | 51 => [(false, [.bool])]
  | 52 => [(false, [.int .i64])]
  | 53 => [(false, [.int .i64])]
  | 54 => [(false, [.int .i64])]
  | 55 => [(true, [.xown 133 3 0, .xown 118 2 1, .xown 216 3 1]), (false, [.bool])]
  | 56 => [(true, [.own 133 3, .fown 118 2 1, .fown 216 3 1])]
  | 57 => [(false, [.own 3 1])]
  | 58 => [(true, [.xown 133 3 0, .xown 118 2 1, .xown 216 3 1]), (false, [.bool])]
  | 59 => [(false, [.bool])]
  | 60 => [(false, [.bool])]
  | 61 => [(false, [.int .i64])]
  | 62 => [(false, [.int .i64])]
  | 63 => [(false, [.int .i64])]
  | 64 => [(false, [.xown 39 1 1]), (false, [.bool])]
  | 65 => [(false, [.xown 39 1 1]), (false, [.bool])]
  | 66 => [(false, [.int .i64])]
  | 67 => [(false, [.bool])]
  | 68 => [(false, [.bool])]
  | 69 => [(false, [.ro 1])]
  | 70 => [(false, [.int .i64])]
  | 71 => [(true, [.own 133 3, .fown 118 2 1]), (false, [.bool])]
  | 72 => [(false, [.fown 118 2 1])]
  | 73 => [(false, [.bool])]
  | 74 => [(true, [.own 133 3, .fown 118 2 1]), (false, [.bool])]
  | 75 => [(false, [.int .i64])]
  | 76 => [(false, [.bool])]
  | 77 => [(false, [.int .i64])]
  | 78 => [(false, [.int .i64])]
  | 79 => [(false, [.int .i64])]
  | 80 => [(false, [.int .i64]), (false, [.bool])]
  | 81 => [(false, [.bool])]
  | 82 => [(false, [.int .i64]), (false, [.bool])]
  | 83 => [(false, [.bool])]
  | 84 => [(false, [.int .i64])]
  | 85 => [(false, [.int .i64])]
  | 86 => [(false, [.int .i64])]
  | 87 => [(false, [.int .i64])]
  | 88 => [(false, [.int .i64])]
  | 89 => [(false, [.bool])]
  | 90 => [(true, [.int .i64, .own 3 1]), (false, [.bool])]
  | 91 => [(true, [.ro 3, .ro 2])]
  | 92 => [(true, [.own 133 3, .fown 118 2 1])]
  | 93 => [(true, [.str, .int .i64, .bool])]
  | 94 => [(false, [.fown 130 2 1])]
  | 95 => [(false, [.bool])]
  | 96 => [(false, [.int .i64])]
  | 97 => [(true, [.int .i64, .own 3 1]), (false, [.bool])]
  | 98 => [(true, [.own 133 3, .fown 118 2 1])]
  | 99 => [(false, [.fown 118 2 1])]
  | 100 => [(false, [.bool])]
  | 101 => [(false, [.bool])]
  | 102 => [(false, [.bool])]
  | 103 => [(false, [.str])]
  | 104 => [(false, [.int .i64])]
  | 105 => [(false, [.own 39 1])]
  | 106 => [(false, [.ro 1])]
  | 107 => [(false, [.fown 39 1 1])]
  | 108 => [(false, [.bool])]
  | 109 => [(false, [.int .i64])]
  | 110 => [(true, []), (false, []), (false, [])]
  | 111 => [(false, [.bool])]
  | 112 => [(false, [.bool])]
  | 113 => [(false, [.bool])]
  | 114 => [(false, [.int .i64])]
  | 115 => [(false, [.int .i64])]
  | 116 => [(false, [.bool])]
  | 117 => [(false, [.bool])]
  | 118 => [(true, [.own 133 3, .fown 118 2 1]), (false, [.int .i64])]
  | 119 => [(true, [.fown 130 2 1, .fown 130 2 1, .bool, .int .i64, .int .i64])]
  | 120 => [(true, [.int .i64, .own 3 1])]
  | 121 => [(false, [.bool])]
  | 122 => [(true, [.own 133 3, .fown 118 2 1]), (false, [.int .i64])]
  | 123 => [(false, [.bool])]
  | 124 => [(false, [.bool])]
  | 125 => [(false, [.int .i64])]
  | 126 => [(true, [.own 133 3, .fown 118 2 1, .fown 216 3 1])]
  | 127 => [(false, [.bool])]
  | 128 => [(false, [.bool])]
  | 129 => [(false, [.bool])]
  | 130 => [(true, [.ro 3, .ro 2, .ro 3]), (false, [.bool])]
  | 131 => [(false, [.fown 216 3 1])]
  | 132 => [(false, [.bool])]
  | 133 => [(false, [.bool])]
  | 134 => [(false, [.bool])]
  | 135 => [(true, [.own 133 3, .fown 118 2 1, .fown 216 3 1])]
  | 136 => [(false, [.fown 118 2 1]), (false, [.fown 216 3 1])]
  | 137 => [(false, [.bool])]
  | 138 => [(false, [.int .i64])]
  | 139 => [(false, [.int .i64])]
  | 140 => [(true, [.own 133 3, .fown 118 2 1, .int .i64, .fown 154 2 1]), (false, [.bool])]
  | 141 => [(true, [.own 133 3, .fown 118 2 1, .int .i64, .fown 154 2 1]), (false, [.bool])]
  | 142 => [(false, [.int .i64])]
  | 143 => [(false, [.bool])]
  | 144 => [(false, [.int .i64])]
  | 145 => [(false, [.ro 1])]
  | 146 => [(false, [.bool])]
  | 147 => [(false, [.ro 1])]
  | 148 => [(false, [.bool])]
  | 149 => [(true, [.int .i64, .own 3 1])]
  | 150 => [(true, [.int .i64, .own 3 1])]
  | 151 => [(false, [.own 3 1])]
  | 152 => [(true, [.own 133 3, .fown 118 2 1]), (false, [.bool])]
  | 153 => [(false, [.bool])]
  | 154 => [(false, [.int .i64])]
  | 155 => [(false, [.ro 1])]
  | 156 => [(false, [.bool])]
  | 157 => [(false, [.bool])]
  | 158 => [(false, [.int .i64])]
  | 159 => [(true, [.int .i64, .own 3 1])]
  | 160 => [(true, [.int .i64, .own 3 1])]
  | 161 => [(false, [.own 3 1])]
  | 162 => [(false, [.bool])]
  | 163 => [(false, [.bool])]
  | 164 => [(false, [.bool])]
  | 165 => [(false, [.bool])]
  | 166 => [(false, [.own 133 3])]
  | 167 => [(false, [.fown 118 2 1])]
  | 168 => [(true, []), (false, [])]
  | 169 => [(false, [.int .i64])]
  | 170 => [(true, []), (false, []), (false, [])]
  | 171 => [(false, [.bool])]
  | 172 => [(false, [.bool])]
  | 173 => [(false, [.bool])]
  | 174 => [(false, [.own 3 1])]
  | 175 => [(false, [.bool])]
  | 176 => [(false, [.bool])]
  | 177 => [(false, [.own 39 1])]
  | 178 => [(false, [.own 3 1])]
  | 179 => [(false, [.int .i64])]
  | 180 => [(false, [.own 39 1])]
  | 181 => [(true, []), (false, []), (false, [])]
  | 182 => [(false, [.bool])]
  | 183 => [(false, [.bool])]
  | 184 => [(false, [.bool])]
  | 185 => [(false, [.own 3 1])]
  | 186 => [(false, [.int .i64])]
  | 187 => [(false, [.bool])]
  | 188 => [(false, [.bool])]
  | 189 => [(false, [.bool])]
  | 190 => [(false, [.bool])]
  | 191 => [(true, [.own 133 3, .fown 118 2 1]), (false, [.int .i64])]
  | 192 => [(false, [.own 3 1])]
  | 193 => [(false, [.int .i64])]
  | 194 => [(false, [.own 3 1])]
  | 195 => [(false, [.int .i64])]
  | 196 => [(false, [.int .i64])]
  | 197 => [(false, [.own 3 1])]
  | 198 => [(true, [.ro 3, .ro 2, .ro 3]), (false, [.int .i64]), (false, [.bool])]
  | 199 => [(true, [.int .i64, .int .i64, .own 3 1])]
  | 200 => [(false, [.bool])]
  | 201 => [(false, [.bool])]
  | 202 => [(false, [.bool])]
  | 203 => [(true, [.int .i64, .int .i64, .own 3 1])]
  | 204 => [(false, [.own 3 1])]
  | 205 => [(false, [.fown 216 3 1])]
  | 206 => [(false, [.int .i64])]
  | 207 => [(false, [.bool])]
  | 208 => [(true, [.own 133 3, .fown 118 2 1, .int .i64, .fown 154 2 1]), (false, [.bool])]
  | 209 => [(true, [.own 133 3, .fown 118 2 1, .int .i64, .fown 154 2 1]), (false, [.bool])]
  | 210 => [(false, [.bool])]
  | 211 => [(false, [.int .i64])]
  | 212 => [(false, [.own 3 1])]
  | 213 => [(false, [.bool])]
  | 214 => [(true, [.int .i64, .own 3 1])]
  | 215 => [(true, [])]
  | 216 => [(true, []), (true, [])]
  | 217 => [(false, [.bool])]
  | 218 => [(false, [.bool])]
  | 219 => [(false, [.bool])]
  | 220 => [(false, [.int .i64])]
  | 221 => [(true, [.int .i64, .own 3 1])]
  | 222 => []
  | 223 => [(false, [.int .i64])]
  | 224 => [(false, [.int .i64])]
  | 225 => [(false, [.int .i64])]
  | 226 => [(false, [.int .i64])]
  | 227 => [(false, [.bool])]
  | 228 => [(false, [.bool])]
  | 229 => [(false, [.own 3 1]), (false, [.bool])]
  | 230 => [(false, [.bool])]
  | 231 => [(false, [.own 39 1])]
  | 232 => [(false, [.own 3 1])]
  | 233 => [(false, [.bool])]
  | 234 => [(true, []), (false, [])]
  | 235 => [(true, []), (false, []), (false, [])]
  | 236 => [(false, [.bool])]
  | 237 => [(false, [.int .i64])]
  | 238 => [(false, [.bool])]
  | 239 => [(false, [.bool])]
  | 240 => [(false, [.own 3 1])]
  | 241 => [(false, [.int .i64])]
  | 242 => [(false, [.bool])]
  | 243 => [(false, [.own 3 1])]
  | 244 => [(false, [.bool])]
  | 245 => [(false, [.bool])]
  | 246 => [(false, [.bool])]
  | 247 => [(false, [.int .i64])]
  | 248 => [(false, [.bool])]
  | 249 => [(false, [.fown 154 2 1])]
  | 250 => [(false, [.int .i64])]
  | 251 => [(false, [.fown 154 2 1])]
  | 252 => [(false, [.int .i64])]
  | 253 => []
  | 254 => [(false, [.int .i64])]
  | 255 => [(false, [.bool])]
  | 256 => []
  | 257 => []
  | 258 => []
  | 259 => [(false, [.int .i64]), (false, [.int .i64])]
  | 260 => []
  | 261 => [(false, [.bool])]
  | 262 => [(false, [.int .i64])]
  | 263 => [(false, [.int .i64]), (false, [.bool])]
  | 264 => [(false, [.int .i64])]
  | 265 => [(false, [.int .i64])]
  | 266 => [(false, [.bool])]
  | 267 => [(false, [.own 3 1]), (false, [.bool])]
  | 268 => [(false, [.own 3 1])]
  | 269 => [(false, [.bool])]
  | 270 => [(false, [.bool])]
  | 271 => []
  | 272 => [(false, [.bool])]
  | 273 => [(false, [.int .i64])]
  | 274 => [(false, [.fown 39 1 1])]
  | 275 => [(false, [.fown 39 1 1])]
  | 276 => []
  | 277 => []
  | 278 => []
  | 279 => [(false, [.int .i64]), (false, [.int .i64])]
  | 280 => []
  | 281 => [(false, [.bool])]
  | 282 => [(false, [.bool])]
  | 283 => [(false, [.int .i64])]
  | 284 => [(false, [.int .i64]), (false, [.bool])]
  | 285 => []
  | 286 => [(false, [.int .u64])]
  | 287 => [(false, [.int .u64])]
  | 288 => [(false, [.int .i64])]
  | 289 => [(false, [.int .i64])]
  | 290 => [(false, [.int .u64]), (false, [.int .u64])]
  | 291 => [(false, [.int .i64])]
  | 292 => []
  | 293 => []
  | 294 => []
  | 295 => [(false, [.int .i64]), (false, [.int .i64])]
  | 296 => []
  | 297 => [(false, [.bool])]
  | 298 => [(false, [.int .i64])]
  | 299 => [(false, [.int .i64]), (false, [.bool])]
  | 300 => []
  | 301 => [(false, [.int .i64])]
  | 302 => [(false, [.int .i64])]
  | 303 => [(false, [.int .i64]), (false, [.int .i64])]
  | 304 => [(false, [.int .u32]), (false, [.int .u32])]
  | 305 => [(false, [.int .u64]), (false, [.int .u64])]
  | 306 => []
  | 307 => [(false, [.int .i64])]
  | 308 => [(false, [.int .i64])]
  | 309 => [(false, [.int .i64]), (false, [.int .i64])]
  | 310 => [(false, [.int .i64]), (false, [.int .i64])]
  | _ => []
def lp : FuncId → Nat → LoopHint := fun f l => match f, l with
  | 13, 6 => [(1, .same), (2, .box [.same, .same]), (4, .box [.own 133 3, .fow 118 2 1]), (6, .box [.own 3 1, .own 3 1]), (7, .same), (8, .same)]
  | 19, 5 => [(1, .box [.same, .same]), (2, .box [.own 133 3, .fow 118 2 1]), (4, .own 3 1), (5, .same)]
  | 19, 8 => [(1, .box [.same, .same]), (2, .box [.own 133 3, .fow 118 2 1]), (4, .own 3 1), (5, .same), (6, .same)]
  | 19, 15 => [(1, .box [.same, .same]), (2, .box [.own 133 3, .fow 118 2 1]), (4, .own 3 1), (9, .box [.own 3 1, .own 3 1]), (10, .same)]
  | 19, 18 => [(1, .box [.same, .same]), (2, .box [.own 133 3, .fow 118 2 1]), (4, .own 3 1), (9, .box [.own 3 1, .own 3 1]), (10, .same), (11, .same)]
  | 20, 3 => [(1, .box [.same, .same]), (2, .box [.own 133 3, .fow 118 2 1]), (4, .box [.own 3 1]), (13, .same), (14, .same), (15, .same)]
  | 20, 6 => [(1, .box [.same, .same]), (2, .box [.own 133 3, .fow 118 2 1]), (4, .box [.own 3 1]), (13, .same), (14, .same), (15, .same), (20, .data 1), (21, .same), (22, .same)]
  | 21, 5 => [(0, .same), (1, .same), (5, .same)]
  | 23, 6 => [(3, .box [.same, .same]), (4, .box [.own 133 3, .fow 118 2 1]), (6, .box [.data 3, .data 2]), (7, .own 3 1), (8, .same)]
  | 23, 10 => [(3, .box [.same, .same]), (4, .box [.own 133 3, .fow 118 2 1]), (6, .box [.data 3, .data 2]), (7, .data 1), (9, .same)]
  | 24, 3 => [(0, .same), (3, .own 133 3), (4, .same)]
  | 26, 5 => [(0, .same), (3, .box [.same, .same]), (4, .box [.own 133 3, .fow 118 2 1]), (6, .own 3 1), (7, .fow 118 2 1), (21, .same)]
  | 26, 10 => [(0, .same), (4, .box [.own 133 3, .fow 118 2 1]), (6, .data 1), (7, .fow 118 2 1), (31, .same), (32, .same), (33, .same)]
  | 27, 4 => [(0, .same), (1, .same), (5, .same)]
  | 29, 2 => [(0, .same), (1, .same), (5, .same)]
  | 31, 6 => [(3, .box [.same, .same]), (5, .data 1), (6, .own 39 1), (7, .same)]
  | 31, 10 => [(3, .box [.same, .same]), (5, .data 1), (6, .own 39 1), (7, .same), (8, .own 3 1), (9, .same)]
  | 33, 4 => [(0, .same), (1, .same), (5, .same)]
  | 34, 2 => [(0, .same), (1, .same), (5, .same)]
  | 35, 2 => [(0, .same), (1, .same), (5, .same)]
  | 36, 4 => [(5, .own 39 1), (6, .same), (7, .same)]
  | 36, 8 => [(5, .own 39 1), (6, .same), (7, .same), (8, .same), (9, .same)]
  | 39, 6 => [(3, .box [.same, .same, .same, .same]), (5, .data 1), (6, .own 39 1), (7, .same)]
  | 39, 11 => [(3, .box [.same, .same, .same, .same]), (5, .data 1), (6, .own 39 1), (7, .same), (8, .own 3 1), (9, .same)]
  | 44, 5 => [(0, .same), (1, .same), (5, .same)]
  | 45, 5 => [(0, .same), (1, .same), (5, .same)]
  | 46, 6 => [(1, .same), (2, .same), (6, .box [.own 133 3, .fow 118 2 1]), (9, .box [.own 133 3, .fow 118 2 1]), (10, .same), (11, .same)]
  | 47, 3 => [(0, .same), (3, .fow 157 5 2), (4, .same)]
  | 48, 3 => [(0, .same), (3, .fow 154 2 1), (4, .same)]
  | 49, 5 => [(1, .same), (6, .box [.own 133 3, .fow 118 2 1]), (9, .box [.own 133 3, .fow 118 2 1]), (10, .same), (26, .same), (27, .same), (28, .same)]
  | 50, 4 => [(0, .same), (1, .same), (5, .same)]
  | 51, 4 => [(0, .same), (1, .same), (5, .same)]
  | 52, 2 => [(0, .same), (1, .same), (5, .same)]
  | 53, 2 => [(0, .same), (1, .same), (5, .same)]
  | 57, 3 => [(0, .same), (3, .own 3 1), (4, .same)]
  | 60, 4 => [(0, .same), (1, .same), (5, .same)]
  | 62, 2 => [(0, .same), (1, .same), (5, .same)]
  | 66, 5 => [(0, .same), (1, .same), (5, .same)]
  | 67, 2 => [(1, .box [.same, .same]), (3, .same)]
  | 69, 3 => [(1, .box [.same, .same]), (3, .data 1), (4, .same)]
  | 69, 7 => [(1, .box [.same, .same]), (3, .data 1), (4, .same), (5, .same), (6, .same)]
  | 71, 5 => [(2, .box [.same, .same]), (3, .box [.same, .same]), (4, .box [.own 133 3, .fow 118 2 1]), (6, .box [.data 3, .data 2]), (7, .same)]
  | 72, 3 => [(0, .same), (3, .fow 118 2 1), (4, .same)]
  | 74, 3 => [(1, .same), (2, .box [.same, .same]), (4, .box [.own 133 3, .fow 118 2 1]), (6, .box [.data 1, .own 3 1]), (13, .data 1), (14, .same), (15, .same)]
  | 76, 4 => [(0, .same), (1, .same), (5, .same)]
  | 77, 2 => [(0, .same), (1, .same), (5, .same)]
  | 78, 2 => [(0, .same), (1, .same), (5, .same)]
  | 79, 2 => [(0, .same), (1, .same), (5, .same)]
  | 81, 2 => [(0, .same), (1, .same), (5, .same)]
  | 85, 2 => [(0, .same), (1, .same), (7, .same), (8, .same)]
  | 88, 5 => [(0, .same), (1, .same), (5, .same)]
  | 89, 3 => [(0, .same), (3, .box [.same, .same]), (5, .same), (6, .same)]
  | 89, 8 => [(3, .box [.same, .same]), (5, .same), (7, .same)]
  | 90, 3 => [(1, .same), (2, .box [.same, .same]), (4, .box [.same, .own 3 1]), (6, .box [.same, .own 3 1]), (7, .same)]
  | 91, 4 => [(2, .box [.same, .same]), (3, .box [.same, .same]), (4, .box [.data 3, .data 2]), (5, .same)]
  | 92, 3 => [(1, .box [.same, .same]), (2, .box [.own 133 3, .fow 118 2 1]), (3, .box [.own 133 3, .fow 118 2 1]), (4, .same)]
  | 94, 3 => [(0, .same), (3, .fow 130 2 1), (4, .same)]
  | 97, 3 => [(1, .same), (4, .box [.same, .own 3 1]), (6, .box [.same, .own 3 1]), (14, .same), (15, .same), (16, .same)]
  | 100, 4 => [(1, .box [.same, .same]), (16, .same), (17, .same), (18, .same)]
  | 102, 4 => [(0, .same), (1, .same), (5, .same)]
  | 103, 4 => [(0, .same), (3, .same)]
  | 104, 2 => [(0, .same), (1, .same), (5, .same)]
  | 105, 6 => [(5, .own 39 1), (6, .own 39 1), (7, .same)]
  | 105, 10 => [(5, .own 39 1), (6, .own 39 1), (7, .same), (8, .same), (9, .same)]
  | 106, 2 => [(0, .same), (1, .same), (5, .same)]
  | 107, 3 => [(2, .same), (4, .box [.same, .same]), (7, .fow 39 1 1), (17, .own 39 1), (18, .same), (19, .same)]
  | 107, 8 => [(2, .same), (4, .box [.same, .same]), (7, .fow 39 1 1), (9, .same), (10, .own 3 1), (17, .own 39 1), (18, .same), (19, .same), (29, .same), (30, .same), (31, .same)]
  | 109, 2 => [(0, .same), (1, .same), (5, .same)]
  | 110, 3 => [(3, .fow 39 1 1), (7, .same), (8, .same), (9, .same)]
  | 116, 2 => [(0, .same), (1, .same), (5, .same)]
  | 118, 15 => [(3, .box [.same, .same]), (4, .box [.same, .same, .same, .same, .same]), (6, .box [.own 133 3, .fow 118 2 1]), (8, .box [.own 133 3, .fow 118 2 1]), (15, .own 3 1), (16, .own 3 1), (17, .same)]
  | 118, 23 => [(4, .box [.same, .same, .same, .same, .same]), (6, .box [.own 133 3, .fow 118 2 1]), (8, .box [.data 3, .data 2]), (15, .data 1), (19, .box [.data 3, .data 2]), (20, .same)]
  | 122, 8 => [(3, .box [.same, .same]), (6, .box [.own 133 3, .fow 118 2 1]), (8, .box [.data 2, .data 2, .same, .same, .same]), (9, .own 3 1), (10, .same), (47, .own 3 1), (48, .same), (49, .same)]
  | 122, 15 => [(3, .box [.same, .same]), (6, .box [.own 133 3, .fow 118 2 1]), (9, .data 1), (10, .same), (13, .box [.own 133 3, .fow 118 2 1]), (64, .data 2), (65, .same), (66, .same)]
  | 125, 5 => [(0, .same), (1, .same), (5, .same)]
  | 126, 4 => [(1, .box [.same, .same, .same]), (2, .box [.own 133 3, .fow 118 2 1, .fow 216 3 1]), (4, .box [.own 133 3, .fow 118 2 1, .fow 216 3 1]), (5, .same)]
  | 127, 3 => [(1, .box [.same, .same, .same]), (3, .own 3 1), (4, .same)]
  | 127, 7 => [(1, .box [.same, .same, .same]), (3, .own 3 1), (4, .same), (5, .same), (6, .same)]
  | 127, 19 => [(1, .box [.same, .same, .same]), (3, .own 3 1), (4, .same), (10, .same)]
  | 128, 2 => [(0, .same), (1, .same), (5, .same)]
  | 129, 5 => [(2, .same), (3, .box [.same, .same]), (4, .box [.same, .same, .same, .same, .same]), (7, .same), (8, .same)]
  | 129, 10 => [(2, .same), (3, .box [.same, .same]), (4, .box [.same, .same, .same, .same, .same]), (9, .same)]
  | 130, 5 => [(1, .same), (2, .same), (3, .same), (4, .box [.same, .same, .same]), (8, .box [.data 3, .data 2, .data 3]), (10, .box [.data 3, .data 2, .data 3]), (11, .own 3 1), (12, .own 3 1), (13, .same)]
  | 130, 11 => [(1, .same), (2, .same), (4, .box [.same, .same, .same]), (8, .box [.data 3, .data 2, .data 3]), (10, .box [.data 3, .data 2, .data 3]), (12, .own 3 1), (14, .own 3 1), (15, .own 3 1), (16, .same)]
  | 130, 19 => [(1, .same), (2, .same), (8, .box [.data 3, .data 2, .data 3]), (10, .box [.data 3, .data 2, .data 3]), (14, .own 3 1), (20, .same)]
  | 131, 3 => [(0, .same), (3, .fow 216 3 1), (4, .same)]
  | 134, 5 => [(2, .same), (3, .box [.same, .same]), (4, .box [.same, .same, .same, .same, .same]), (7, .own 3 1), (32, .same), (33, .same), (34, .same)]
  | 134, 11 => [(2, .same), (3, .box [.same, .same]), (47, .same), (48, .same), (49, .same)]
  | 135, 3 => [(2, .box [.own 133 3, .fow 118 2 1, .fow 216 3 1]), (3, .box [.own 133 3, .fow 118 2 1, .fow 216 3 1]), (11, .same), (12, .same), (13, .same)]
  | 136, 4 => [(0, .same), (2, .same), (3, .same), (10, .box [.data 2, .data 2, .same, .same, .same]), (11, .own 3 1), (12, .own 3 1), (13, .fow 118 2 1), (34, .own 3 1), (35, .same), (36, .same)]
  | 136, 10 => [(2, .same), (10, .box [.data 2, .data 2, .same, .same, .same]), (11, .own 3 1), (12, .own 3 1), (13, .fow 118 2 1), (16, .fow 216 3 1), (51, .own 3 1), (52, .same), (53, .same)]
  | 136, 20 => [(11, .own 3 1), (13, .fow 118 2 1), (16, .fow 216 3 1), (80, .data 2), (81, .same), (82, .same)]
  | 137, 4 => [(0, .same), (1, .same), (5, .same)]
  | 138, 2 => [(0, .same), (1, .same), (5, .same)]
  | 139, 2 => [(0, .same), (1, .same), (5, .same)]
  | 143, 4 => [(3, .box [.same, .same]), (5, .same)]
  | 145, 3 => [(1, .box [.same, .same]), (3, .data 1), (4, .same)]
  | 146, 2 => [(0, .same), (3, .same)]
  | 147, 2 => [(0, .same), (1, .same), (5, .same)]
  | 148, 4 => [(1, .box [.same, .same]), (3, .same)]
  | 149, 3 => [(2, .box [.same, .same]), (3, .box [.same, .same]), (4, .box [.same, .own 3 1]), (5, .box [.same, .own 3 1]), (6, .same)]
  | 151, 3 => [(3, .own 3 1), (8, .same), (9, .same), (10, .same)]
  | 152, 5 => [(2, .box [.same, .same]), (4, .box [.own 133 3, .fow 118 2 1]), (6, .box [.own 133 3, .fow 118 2 1]), (21, .same), (22, .same), (23, .same)]
  | 155, 3 => [(0, .same), (3, .data 1), (4, .same)]
  | 155, 6 => [(0, .same), (3, .data 1), (4, .same), (5, .same)]
  | 156, 4 => [(3, .box [.same, .same]), (5, .same)]
  | 158, 2 => [(2, .box [.same, .same]), (3, .box [.same, .same]), (5, .same)]
  | 161, 3 => [(3, .own 3 1), (9, .same), (10, .same), (11, .same)]
  | 161, 6 => [(3, .own 3 1), (9, .same), (10, .same), (11, .same), (16, .data 1), (17, .same), (18, .same)]
  | 167, 3 => [(3, .fow 118 2 1), (7, .same), (8, .same), (9, .same)]
  | 170, 4 => [(0, .same), (1, .same), (5, .same)]
  | 170, 9 => [(0, .same), (1, .same), (5, .same), (6, .same), (7, .same)]
  | 172, 2 => [(0, .same), (5, .same), (6, .same), (7, .same)]
  | 176, 2 => [(1, .same), (2, .box [.same, .same]), (5, .same)]
  | 177, 5 => [(1, .same), (2, .same), (3, .same), (4, .box [.same, .same]), (9, .own 39 1), (10, .same)]
  | 178, 2 => [(1, .own 3 1)]
  | 179, 2 => [(0, .same), (1, .same), (5, .same)]
  | 180, 5 => [(5, .own 39 1), (18, .own 39 1), (19, .same), (20, .same)]
  | 183, 4 => [(0, .same), (3, .box [.same, .same, .same, .same, .same]), (5, .same)]
  | 183, 12 => [(0, .same), (3, .box [.same, .same, .same, .same, .same]), (7, .same)]
  | 185, 5 => [(3, .own 3 1), (4, .same), (5, .same), (6, .same)]
  | 197, 5 => [(3, .own 3 1), (4, .same), (5, .same), (6, .same)]
  | 198, 2 => [(2, .box [.same, .same, .data 3]), (3, .box [.same, .same, .same]), (4, .box [.data 3, .data 2, .data 3]), (7, .same)]
  | 200, 4 => [(0, .same), (8, .same), (9, .same), (10, .same)]
  | 208, 5 => [(1, .same), (2, .same), (6, .box [.own 133 3, .fow 118 2 1, .same, .fow 154 2 1]), (8, .box [.own 133 3, .fow 118 2 1, .same, .fow 154 2 1]), (9, .same)]
  | 209, 5 => [(1, .same), (2, .same), (6, .box [.own 133 3, .fow 118 2 1, .same, .fow 154 2 1]), (8, .box [.own 133 3, .fow 118 2 1, .same, .fow 154 2 1]), (9, .same)]
  | 211, 2 => [(1, .same), (2, .box [.same, .same]), (5, .same)]
  | 212, 3 => [(3, .own 3 1), (9, .same), (10, .same), (11, .same)]
  | 213, 4 => [(1, .box [.same, .same]), (13, .same), (14, .same), (15, .same)]
  | 214, 3 => [(2, .box [.same, .same]), (4, .box [.same, .own 3 1]), (5, .box [.same, .own 3 1]), (11, .same), (12, .same), (13, .same)]
  | 216, 4 => [(0, .same), (3, .same)]
  | 216, 9 => [(0, .same), (3, .same), (4, .same), (5, .same)]
  | 220, 2 => [(0, .same), (1, .same), (7, .same), (8, .same)]
  | 222, 2 => [(0, .same), (1, .same), (2, .same), (3, .same), (4, .same), (10, .same), (11, .same)]
  | 224, 3 => [(3, .same), (6, .same), (7, .same), (8, .same)]
  | 226, 2 => [(0, .same), (1, .same), (9, .same), (10, .same), (11, .same)]
  | 229, 5 => [(3, .box [.same, .same]), (4, .box [.same, .same]), (8, .own 3 1), (9, .same)]
  | 231, 5 => [(0, .same), (1, .same), (2, .same), (7, .own 39 1), (18, .same), (19, .same), (20, .same)]
  | 235, 4 => [(0, .same), (1, .same), (5, .same)]
  | 235, 9 => [(0, .same), (1, .same), (5, .same), (6, .same), (7, .same)]
  | 236, 4 => [(0, .same), (1, .same), (12, .same), (13, .same)]
  | 237, 2 => [(0, .same), (1, .same), (7, .same), (8, .same)]
  | 240, 3 => [(1, .same), (5, .own 3 1), (6, .own 3 1), (15, .own 3 1), (16, .same), (17, .same)]
  | 241, 3 => [(2, .box [.same, .same, .same]), (3, .box [.same, .same, .same]), (5, .own 3 1), (6, .same)]
  | 241, 10 => [(2, .box [.same, .same, .same]), (3, .box [.same, .same, .same]), (5, .own 3 1), (6, .same), (7, .box [.same, .same, .data 1]), (8, .same), (9, .same)]
  | 243, 3 => [(3, .own 3 1), (10, .same), (11, .same), (12, .same)]
  | 243, 7 => [(3, .own 3 1), (6, .same), (10, .same), (11, .same), (12, .same), (18, .own 3 1), (19, .same), (20, .same)]
  | 247, 2 => [(0, .same), (1, .same), (7, .same), (8, .same)]
  | 249, 3 => [(1, .same), (2, .box [.same, .same]), (5, .fow 154 2 1), (6, .same)]
  | 249, 7 => [(1, .same), (2, .box [.same, .same]), (5, .fow 154 2 1), (6, .same), (7, .fow 39 1 1), (8, .same)]
  | 251, 3 => [(2, .box [.same, .same]), (5, .fow 154 2 1), (11, .same), (12, .same), (13, .same)]
  | 251, 6 => [(2, .box [.same, .same]), (5, .fow 154 2 1), (6, .same), (11, .same), (12, .same), (13, .same), (20, .fow 39 1 1), (21, .same), (22, .same)]
  | 253, 2 => [(0, .same), (1, .same), (2, .same), (3, .same), (8, .same), (9, .same)]
  | 254, 2 => [(0, .same), (1, .same), (7, .same), (8, .same)]
  | 256, 1 => [(0, .same), (1, .same), (2, .same), (3, .same), (8, .same)]
  | 256, 4 => [(0, .same), (1, .same), (2, .same), (3, .same), (8, .same), (9, .same)]
  | 257, 4 => [(0, .same), (3, .same), (8, .same), (9, .same), (10, .same), (11, .same)]
  | 257, 8 => [(0, .same), (3, .same), (8, .same), (9, .same), (12, .same)]
  | 258, 5 => [(0, .same), (1, .same), (8, .same), (9, .box [.same]), (10, .same), (11, .same)]
  | 260, 2 => [(0, .same), (8, .same), (9, .same)]
  | 261, 3 => [(0, .same), (1, .same), (2, .same), (3, .same), (9, .same), (10, .same)]
  | 261, 5 => [(0, .same), (1, .same), (2, .same), (3, .same), (9, .same), (10, .same)]
  | 261, 14 => [(0, .same), (1, .same), (2, .same), (3, .same), (9, .same), (10, .same), (11, .same)]
  | 261, 20 => [(0, .same), (1, .same), (2, .same), (3, .same), (9, .same), (10, .same), (12, .same)]
  | 262, 3 => [(0, .same), (1, .same), (4, .same), (11, .same), (12, .same)]
  | 262, 5 => [(0, .same), (1, .same), (4, .same), (11, .same), (12, .same)]
  | 263, 3 => [(0, .same), (1, .same), (4, .same), (12, .same), (13, .same)]
  | 263, 5 => [(0, .same), (1, .same), (4, .same), (12, .same), (13, .same)]
  | 263, 13 => [(0, .same), (1, .same), (4, .same), (12, .same), (13, .same)]
  | 263, 15 => [(0, .same), (1, .same), (4, .same), (12, .same), (13, .same)]
  | 267, 5 => [(5, .box [.same, .same]), (8, .own 3 1), (20, .same), (21, .same), (22, .same)]
  | 268, 8 => [(7, .own 3 1), (8, .same)]
  | 271, 2 => [(0, .same), (1, .same), (2, .same), (3, .same), (4, .same), (10, .same), (11, .same)]
  | 273, 2 => [(0, .same), (1, .same), (7, .same), (8, .same)]
  | 274, 6 => [(2, .box [.same, .same]), (3, .box [.same, .same, .same, .same, .same]), (5, .fow 39 1 1), (6, .fow 39 1 1), (7, .same)]
  | 275, 5 => [(2, .box [.same, .same]), (3, .box [.same, .same, .same, .same, .same]), (5, .fow 39 1 1), (18, .fow 39 1 1), (19, .same), (20, .same)]
  | 276, 1 => [(0, .same), (1, .same), (2, .same), (6, .same)]
  | 276, 4 => [(0, .same), (1, .same), (2, .same), (6, .same), (7, .same)]
  | 277, 4 => [(0, .same), (6, .same), (7, .same), (8, .same), (9, .same)]
  | 277, 8 => [(0, .same), (6, .same), (7, .same), (10, .same)]
  | 278, 5 => [(0, .same), (1, .same), (6, .same), (7, .box [.same]), (8, .same), (9, .same)]
  | 280, 2 => [(0, .same), (6, .same), (7, .same)]
  | 281, 3 => [(0, .same), (1, .same), (2, .same), (7, .same), (8, .same)]
  | 281, 5 => [(0, .same), (1, .same), (2, .same), (7, .same), (8, .same)]
  | 281, 14 => [(0, .same), (1, .same), (2, .same), (7, .same), (8, .same), (9, .same)]
  | 281, 20 => [(0, .same), (1, .same), (2, .same), (7, .same), (8, .same), (10, .same)]
  | 283, 3 => [(0, .same), (1, .same), (9, .same), (10, .same)]
  | 283, 5 => [(0, .same), (1, .same), (9, .same), (10, .same)]
  | 284, 3 => [(0, .same), (1, .same), (10, .same), (11, .same)]
  | 284, 5 => [(0, .same), (1, .same), (10, .same), (11, .same)]
  | 284, 13 => [(0, .same), (1, .same), (10, .same), (11, .same)]
  | 284, 15 => [(0, .same), (1, .same), (10, .same), (11, .same)]
  | 285, 1 => [(0, .same), (2, .same), (3, .same), (4, .same), (10, .same)]
  | 291, 2 => [(0, .same), (1, .same), (7, .same), (8, .same)]
  | 292, 1 => [(0, .same), (1, .same), (2, .same), (3, .same), (8, .same)]
  | 292, 4 => [(0, .same), (1, .same), (2, .same), (3, .same), (8, .same), (9, .same)]
  | 293, 4 => [(0, .same), (3, .same), (8, .same), (9, .same), (10, .same), (11, .same)]
  | 293, 8 => [(0, .same), (3, .same), (8, .same), (9, .same), (12, .same)]
  | 294, 5 => [(0, .same), (1, .same), (8, .same), (9, .box [.same]), (10, .same), (11, .same)]
  | 296, 2 => [(0, .same), (8, .same), (9, .same)]
  | 297, 3 => [(0, .same), (1, .same), (2, .same), (3, .same), (9, .same), (10, .same)]
  | 297, 5 => [(0, .same), (1, .same), (2, .same), (3, .same), (9, .same), (10, .same)]
  | 297, 14 => [(0, .same), (1, .same), (2, .same), (3, .same), (9, .same), (10, .same), (11, .same)]
  | 297, 20 => [(0, .same), (1, .same), (2, .same), (3, .same), (9, .same), (10, .same), (12, .same)]
  | 298, 3 => [(0, .same), (1, .same), (4, .same), (11, .same), (12, .same)]
  | 298, 5 => [(0, .same), (1, .same), (4, .same), (11, .same), (12, .same)]
  | 299, 3 => [(0, .same), (1, .same), (4, .same), (12, .same), (13, .same)]
  | 299, 5 => [(0, .same), (1, .same), (4, .same), (12, .same), (13, .same)]
  | 299, 13 => [(0, .same), (1, .same), (4, .same), (12, .same), (13, .same)]
  | 299, 15 => [(0, .same), (1, .same), (4, .same), (12, .same), (13, .same)]
  | 300, 1 => [(0, .same), (2, .same), (3, .same), (8, .same)]
  | 306, 1 => [(0, .same), (2, .same), (3, .same), (4, .same), (10, .same)]
  | 3, 13 => [(1, .same), (2, .box [.same, .same]), (4, .same), (6, .box [.own 133 3, .fow 118 2 1]), (7, .same), (8, .box [.own 133 3, .fow 118 2 1]), (9, .box [.own 133 3, .fow 118 2 1]), (10, .same), (11, .same)]
  | 3, 17 => [(1, .same), (2, .box [.same, .same]), (4, .same), (6, .box [.own 133 3, .fow 118 2 1]), (7, .same), (9, .box [.own 133 3, .fow 118 2 1]), (12, .same)]
  | 4, 13 => [(1, .box [.same, .same]), (2, .same), (4, .box [.own 133 3, .fow 118 2 1]), (5, .same), (6, .box [.own 133 3, .fow 118 2 1]), (7, .box [.own 133 3, .fow 118 2 1]), (8, .same), (9, .same)]
  | 4, 17 => [(1, .box [.same, .same]), (2, .same), (4, .box [.own 133 3, .fow 118 2 1]), (5, .same), (7, .box [.own 133 3, .fow 118 2 1]), (10, .same)]
  | 5, 19 => [(0, .same), (3, .box [.same, .same]), (4, .same), (6, .box [.own 133 3, .fow 118 2 1]), (7, .same), (8, .own 133 3), (9, .box [.own 3 1, .fow 130 2 1]), (10, .box [.own 133 3, .fow 118 2 1]), (11, .same), (12, .same)]
  | 5, 20 => [(0, .same), (3, .box [.same, .same]), (4, .same), (6, .box [.own 133 3, .fow 118 2 1]), (7, .same), (9, .box [.own 3 1, .fow 130 2 1]), (10, .box [.own 133 3, .fow 118 2 1]), (11, .same), (12, .same)]
  | 5, 24 => [(0, .same), (3, .box [.same, .same]), (4, .same), (6, .box [.own 133 3, .fow 118 2 1]), (7, .same), (10, .box [.own 133 3, .fow 118 2 1]), (13, .same)]
  | 6, 19 => [(2, .box [.same, .same]), (3, .box [.same, .same]), (4, .same), (6, .same), (7, .box [.own 133 3, .fow 118 2 1]), (8, .box [.own 3 1, .fow 130 2 1]), (9, .fow 39 1 1), (10, .same)]
  | 6, 20 => [(2, .box [.same, .same]), (3, .box [.same, .same]), (4, .same), (6, .same), (8, .box [.own 3 1, .fow 130 2 1]), (9, .fow 39 1 1), (10, .same)]
  | 6, 24 => [(2, .box [.same, .same]), (3, .box [.same, .same]), (4, .same), (6, .same), (9, .fow 39 1 1), (11, .same)]
  | 7, 19 => [(2, .box [.same, .same]), (3, .box [.same, .same]), (4, .same), (6, .same), (7, .box [.own 133 3, .fow 118 2 1]), (8, .box [.own 3 1, .fow 130 2 1]), (9, .fow 39 1 1), (10, .same)]
  | 7, 20 => [(2, .box [.same, .same]), (3, .box [.same, .same]), (4, .same), (6, .same), (8, .box [.own 3 1, .fow 130 2 1]), (9, .fow 39 1 1), (10, .same)]
  | 7, 24 => [(2, .box [.same, .same]), (3, .box [.same, .same]), (4, .same), (6, .same), (9, .fow 39 1 1), (11, .same)]
  | 8, 19 => [(2, .box [.same, .same]), (3, .box [.same, .same, .same, .same]), (4, .same), (6, .same), (7, .box [.own 133 3, .fow 118 2 1]), (8, .box [.own 3 1, .fow 130 2 1, .same, .same]), (9, .fow 39 1 1), (10, .same)]
  | 8, 20 => [(2, .box [.same, .same]), (3, .box [.same, .same, .same, .same]), (4, .same), (6, .same), (8, .box [.own 3 1, .fow 130 2 1, .same, .same]), (9, .fow 39 1 1), (10, .same)]
  | 8, 24 => [(2, .box [.same, .same]), (3, .box [.same, .same, .same, .same]), (4, .same), (6, .same), (9, .fow 39 1 1), (11, .same)]
  | 9, 25 => [(1, .same), (2, .same), (3, .box [.same, .same]), (6, .same), (8, .box [.own 133 3, .fow 118 2 1]), (9, .same), (10, .same), (11, .box [.own 133 3, .fow 118 2 1]), (12, .fow 157 5 2), (13, .fow 154 2 1), (14, .box [.own 133 3, .fow 118 2 1]), (15, .same), (16, .same), (17, .same)]
  | 9, 26 => [(1, .same), (2, .same), (3, .box [.same, .same]), (6, .same), (8, .box [.own 133 3, .fow 118 2 1]), (9, .same), (10, .same), (12, .fow 157 5 2), (13, .fow 154 2 1), (14, .box [.own 133 3, .fow 118 2 1]), (15, .same), (16, .same), (17, .same)]
  | 9, 27 => [(1, .same), (2, .same), (3, .box [.same, .same]), (6, .same), (8, .box [.own 133 3, .fow 118 2 1]), (9, .same), (10, .same), (13, .fow 154 2 1), (14, .box [.own 133 3, .fow 118 2 1]), (15, .same), (16, .same), (17, .same)]
  | 9, 31 => [(1, .same), (2, .same), (3, .box [.same, .same]), (6, .same), (8, .box [.own 133 3, .fow 118 2 1]), (9, .same), (10, .same), (14, .box [.own 133 3, .fow 118 2 1]), (18, .same)]
  | 10, 24 => [(1, .same), (2, .same), (3, .same), (4, .box [.same, .same, .same]), (8, .same), (10, .box [.own 133 3, .fow 118 2 1, .fow 216 3 1]), (11, .same), (12, .box [.own 133 3, .fow 118 2 1, .fow 216 3 1]), (13, .fow 157 5 2), (14, .own 3 1), (15, .box [.own 133 3, .fow 118 2 1, .fow 216 3 1]), (16, .same), (17, .same)]
  | 10, 25 => [(1, .same), (2, .same), (3, .same), (4, .box [.same, .same, .same]), (8, .same), (10, .box [.own 133 3, .fow 118 2 1, .fow 216 3 1]), (11, .same), (13, .fow 157 5 2), (14, .own 3 1), (15, .box [.own 133 3, .fow 118 2 1, .fow 216 3 1]), (16, .same), (17, .same)]
  | 10, 26 => [(1, .same), (2, .same), (3, .same), (4, .box [.same, .same, .same]), (8, .same), (10, .box [.own 133 3, .fow 118 2 1, .fow 216 3 1]), (11, .same), (14, .own 3 1), (15, .box [.own 133 3, .fow 118 2 1, .fow 216 3 1]), (16, .same), (17, .same)]
  | 10, 30 => [(1, .same), (2, .same), (3, .same), (4, .box [.same, .same, .same]), (8, .same), (10, .box [.own 133 3, .fow 118 2 1, .fow 216 3 1]), (11, .same), (15, .box [.own 133 3, .fow 118 2 1, .fow 216 3 1]), (18, .same)]
  | 11, 25 => [(1, .same), (3, .box [.same, .same]), (5, .box [.same, .same]), (6, .same), (8, .fow 39 1 1), (9, .same), (10, .box [.own 133 3, .fow 118 2 1]), (11, .fow 157 5 2), (12, .box [.own 3 1, .fow 130 2 1]), (13, .fow 39 1 1), (14, .same), (15, .same)]
  | 11, 26 => [(1, .same), (3, .box [.same, .same]), (5, .box [.same, .same]), (6, .same), (8, .fow 39 1 1), (9, .same), (11, .fow 157 5 2), (12, .box [.own 3 1, .fow 130 2 1]), (13, .fow 39 1 1), (14, .same), (15, .same)]
  | 11, 27 => [(1, .same), (3, .box [.same, .same]), (5, .box [.same, .same]), (6, .same), (8, .fow 39 1 1), (9, .same), (12, .box [.own 3 1, .fow 130 2 1]), (13, .fow 39 1 1), (14, .same), (15, .same)]
  | 11, 31 => [(1, .same), (3, .box [.same, .same]), (5, .box [.same, .same]), (6, .same), (8, .fow 39 1 1), (9, .same), (13, .fow 39 1 1), (16, .same)]
  | _, _ => []
def jn : FuncId → Nat → Option Nat := fun f l => match f, l with
  | 3, 13 => some 0
  | 3, 17 => some 0
  | 4, 13 => some 0
  | 4, 17 => some 0
  | 5, 19 => some 0
  | 5, 20 => some 0
  | 5, 24 => some 0
  | 6, 19 => some 0
  | 6, 20 => some 0
  | 6, 24 => some 0
  | 7, 19 => some 0
  | 7, 20 => some 0
  | 7, 24 => some 0
  | 8, 19 => some 0
  | 8, 20 => some 0
  | 8, 24 => some 0
  | 9, 25 => some 0
  | 9, 26 => some 0
  | 9, 27 => some 0
  | 9, 31 => some 0
  | 10, 24 => some 0
  | 10, 25 => some 0
  | 10, 26 => some 0
  | 10, 30 => some 0
  | 11, 25 => some 0
  | 11, 26 => some 0
  | 11, 27 => some 0
  | 11, 31 => some 0
  | _, _ => none
def hs : Hints := { sig := sg, loops := lp, joins := jn }
/-- where the seeds are laid anew -/
def rs2 : Nat → Option LoopHint := fun i => match i with
  | 9 => some [(2, .box [.same, .same]), (3, .box [.same, .same]), (4, .same), (6, .same)]
  | _ => none
def rs4 : Nat → Option LoopHint := fun i => match i with
  | 9 => some [(2, .box [.same, .same]), (3, .box [.same, .same, .same, .same]), (4, .same), (6, .same)]
  | _ => none

def digs : Nat → Nat → List UInt8 → List UInt8
  | 0, _, acc => acc
  | f + 1, n, acc => if n = 0 then acc else digs f (n / 10) (UInt8.ofNat (48 + n % 10) :: acc)
/-- what markText gives -/
def mt (k : Int) : List UInt8 := if k ≤ 0 then [109, 48] else 109 :: digs 64 k.toNat []
def prim : FuncId → Option (Args → Option Res) := prims [(215, sortP), (216, compactP), (192, cloneP 3), (268, rep5P 3), (181, rowsSetGP), (110, groundGP 39), (17, markP true (mkAg (stepInst mt))), (30, markP true (mkAg stepQuery)), (43, markP true (mkAg stepIneq)), (34, markP false (mkLs 1 (mkRows stepInts)))]
noncomputable def C (k : Nat) : CallF := evCall P hs prim k
/-- without primitives -/
noncomputable def C0 (k : Nat) : CallF := evCall P hs (fun _ => none) k
end Go.Proofs.YthicohakeljdcaaGreat.Q

/-! UF -/
namespace Go.Proofs.YthicohakeljdcaaGreat.Q
open Go Ovi
set_option maxRecDepth 1000000
theorem F12.run (k : Nat) (a0_0 : Ovi.Rows) (a0_1 : Ovi.Rows) (a1 : Int) : C (k + 1) 12 [AV.agg [AV.d (D.list 3 a0_0), AV.d (D.list 2 a0_1)], AV.d (D.int IntKind.i64 a1)] = bindR ((C k) 21 [AV.d (D.list 3 a0_0), AV.d (D.int IntKind.i64 a1)]) fun r5 => bindI (resI IntKind.i64 1 false 1 r5 0 0) fun n6 => ite' (decide (n6 < (0 : Int))) (some ([(false, [RL.d (D.int IntKind.i64 (-1 : Int))])])) (bindR ((C k) 66 [AV.d (D.list 2 a0_1), AV.d (D.int IntKind.i64 n6)]) fun r7 => bindI (resI IntKind.i64 1 false 1 r7 0 0) fun n8 => ite' (decide (n8 < (0 : Int))) (some ([(false, [RL.d (D.int IntKind.i64 (-1 : Int))])])) (some ([(false, [RL.d (D.int IntKind.i64 n8)])]))) := (show C (k + 1) 12 [AV.agg [AV.d (D.list 3 a0_0), AV.d (D.list 2 a0_1)], AV.d (D.int IntKind.i64 a1)] = evFnK P hs (C k) 12 k Tryz.f12 [AV.agg [AV.d (D.list 3 a0_0), AV.d (D.list 2 a0_1)], AV.d (D.int IntKind.i64 a1)] by kernel_rfl).trans (by kernel_rfl)
theorem F14.run (k : Nat) (a0_0 : Ovi.Rows) (a0_1 : Ovi.Rows) : C (k + 1) 14 [AV.agg [AV.d (D.list 3 a0_0), AV.d (D.list 2 a0_1)]] = bindR ((C k) 24 [AV.d (D.list 3 a0_0)]) fun r4 => bindL (resO 133 3 1 false 1 r4 0 0) fun l5 => bindR ((C k) 72 [AV.d (D.list 2 a0_1)]) fun r6 => bindL (resF 118 2 1 1 false 1 r6 0 0) fun l7 => some ([(true, [RL.row 133 3 l5, RL.frow 118 2 1 l7])]) := (show C (k + 1) 14 [AV.agg [AV.d (D.list 3 a0_0), AV.d (D.list 2 a0_1)]] = evFnK P hs (C k) 14 k Tryz.f14 [AV.agg [AV.d (D.list 3 a0_0), AV.d (D.list 2 a0_1)]] by kernel_rfl).trans (by kernel_rfl)
theorem F16.run (k : Nat) (a0_0 : Ovi.Rows) (a0_1 : Ovi.Rows) (a1_0 : Ovi.Rows) (a1_1 : Ovi.Rows) : C (k + 1) 16 [AV.agg [AV.d (D.list 3 a0_0), AV.d (D.list 2 a0_1)], AV.agg [AV.d (D.list 3 a1_0), AV.d (D.list 2 a1_1)]] = bindR ((C k) 27 [AV.d (D.list 3 a0_0), AV.d (D.list 3 a1_0)]) fun r6 => bindB (resB 1 false 1 r6 0 0) fun b7 => ite' (!b7) (some ([(false, [RL.d (D.bool false)])])) (bindR ((C k) 76 [AV.d (D.list 2 a0_1), AV.d (D.list 2 a1_1)]) fun r8 => bindB (resB 1 false 1 r8 0 0) fun b9 => ite' (!b9) (some ([(false, [RL.d (D.bool false)])])) (some ([(false, [RL.d (D.bool true)])]))) := (show C (k + 1) 16 [AV.agg [AV.d (D.list 3 a0_0), AV.d (D.list 2 a0_1)], AV.agg [AV.d (D.list 3 a1_0), AV.d (D.list 2 a1_1)]] = evFnK P hs (C k) 16 k Tryz.f16 [AV.agg [AV.d (D.list 3 a0_0), AV.d (D.list 2 a0_1)], AV.agg [AV.d (D.list 3 a1_0), AV.d (D.list 2 a1_1)]] by kernel_rfl).trans (by kernel_rfl)
noncomputable def F21.L5 (k : Nat) (call : CallF)  (n : Nat) (v0 : Ovi.Rows) (v1 : Int) (v2 : Int) : Option Res := loopFn P hs call 21 k Tryz.f21 [1, 1, 1, 0, 1, 0] [] n [(0, AV.d (D.list 3 v0)), (1, AV.d (D.int IntKind.i64 v1)), (5, AV.d (D.int IntKind.i64 v2))] []
theorem F21.L5.succ (k : Nat) (call : CallF)  (n : Nat) (v0 : Ovi.Rows) (v1 : Int) (v2 : Int) : F21.L5 k call  (n + 1) v0 v1 v2 = ite' (decide (v2 < (↑(List.length v0) : Int))) (ite' (inR v2 (List.length v0)) (bindS (cellS v0 v2.toNat 0) fun s8 => bindI (cellI IntKind.i64 v0 v2.toNat 1) fun n9 => bindB (cellB v0 v2.toNat 2) fun b10 => bindR (call 86 [AV.agg [AV.d (D.str s8), AV.d (D.int IntKind.i64 n9), AV.d (D.bool b10)], AV.d (D.int IntKind.i64 v1)]) fun r11 => bindI (resI IntKind.i64 1 false 1 r11 0 0) fun n12 => ite' (decide (n12 < (0 : Int))) (some ([(false, [RL.d (D.int IntKind.i64 (-1 : Int))])])) (F21.L5 k call  (n) (v0) (n12) (IntKind.i64.wrap (v2 + (1 : Int))))) (none)) (some ([(false, [RL.d (D.int IntKind.i64 v1)])])) := by kernel_rfl
theorem F21.run (k : Nat) (a0 : Ovi.Rows) (a1 : Int) : C (k + 1) 21 [AV.d (D.list 3 a0), AV.d (D.int IntKind.i64 a1)] = ite' (decide (IntKind.i64.wrap (a1 - (↑(List.length a0) : Int)) < (0 : Int))) (some ([(false, [RL.d (D.int IntKind.i64 (-1 : Int))])])) (F21.L5 k (C k)  (k) (a0) (IntKind.i64.wrap (a1 - (↑(List.length a0) : Int))) ((0 : Int))) := (show C (k + 1) 21 [AV.d (D.list 3 a0), AV.d (D.int IntKind.i64 a1)] = evFnK P hs (C k) 21 k Tryz.f21 [AV.d (D.list 3 a0), AV.d (D.int IntKind.i64 a1)] by kernel_rfl).trans (by kernel_rfl)
theorem F22.run (k : Nat) (a0_0 : Ovi.Rows) (a0_1 : Ovi.Rows) (a1 : Int) : C (k + 1) 22 [AV.agg [AV.d (D.list 1 a0_0), AV.d (D.list 2 a0_1)], AV.d (D.int IntKind.i64 a1)] = bindR ((C k) 87 [AV.d (D.list 1 a0_0), AV.d (D.int IntKind.i64 a1)]) fun r5 => bindI (resI IntKind.i64 1 false 1 r5 0 0) fun n6 => ite' (decide (n6 < (0 : Int))) (some ([(false, [RL.d (D.int IntKind.i64 (-1 : Int))])])) (bindR ((C k) 88 [AV.d (D.list 2 a0_1), AV.d (D.int IntKind.i64 n6)]) fun r7 => bindI (resI IntKind.i64 1 false 1 r7 0 0) fun n8 => ite' (decide (n8 < (0 : Int))) (some ([(false, [RL.d (D.int IntKind.i64 (-1 : Int))])])) (some ([(false, [RL.d (D.int IntKind.i64 n8)])]))) := (show C (k + 1) 22 [AV.agg [AV.d (D.list 1 a0_0), AV.d (D.list 2 a0_1)], AV.d (D.int IntKind.i64 a1)] = evFnK P hs (C k) 22 k Tryz.f22 [AV.agg [AV.d (D.list 1 a0_0), AV.d (D.list 2 a0_1)], AV.d (D.int IntKind.i64 a1)] by kernel_rfl).trans (by kernel_rfl)
noncomputable def F24.L3 (k : Nat) (call : CallF)  (n : Nat) (v0 : Ovi.Rows) (v1 : Int) (v2 : Ovi.Rows) : Option Res := loopFn P hs call 24 k Tryz.f24 [1, 1, 0, 1, 0] [] n [(0, AV.d (D.list 3 v0)), (3, AV.own 100003 0), (4, AV.d (D.int IntKind.i64 v1))] [(100003, Blk.arr 133 3 0 v2 (0, 0, 0))]
theorem F24.L3.succ (k : Nat) (call : CallF)  (n : Nat) (v0 : Ovi.Rows) (v1 : Int) (v2 : Ovi.Rows) : F24.L3 k call  (n + 1) v0 v1 v2 = ite' (decide (v1 < (↑(List.length v0) : Int))) (ite' (inR v1 (List.length v0)) (bindS (cellS v0 v1.toNat 0) fun s7 => bindI (cellI IntKind.i64 v0 v1.toNat 1) fun n8 => bindB (cellB v0 v1.toNat 2) fun b9 => bindR (call 93 [AV.agg [AV.d (D.str s7), AV.d (D.int IntKind.i64 n8), AV.d (D.bool b9)]]) fun r10 => bindS (resS 1 true 3 r10 0 0) fun s11 => bindI (resI IntKind.i64 1 true 3 r10 0 1) fun n12 => bindB (resB 1 true 3 r10 0 2) fun b13 => ite' (inR v1 (List.length v2)) (F24.L3 k call  (n) (v0) (IntKind.i64.wrap (v1 + (1 : Int))) (rowsSet v2 v1.toNat 0 [D.str s11, D.int IntKind.i64 n12, D.bool b13])) (none)) (none)) (some ([(false, [RL.row 133 3 v2])])) := by kernel_rfl
theorem F24.run (k : Nat) (a0 : Ovi.Rows) : C (k + 1) 24 [AV.d (D.list 3 a0)] = ite' ((↑(List.length a0) : Int) == (↑(List.length a0) : Int)) (ite' (inM (↑(List.length a0) : Int)) (F24.L3 k (C k)  (k) (a0) ((0 : Int)) (rowsOf (↑(List.length a0) : Int) [D.str ([] : List UInt8), D.int IntKind.i64 (0 : Int), D.bool false])) (none)) (none) := (show C (k + 1) 24 [AV.d (D.list 3 a0)] = evFnK P hs (C k) 24 k Tryz.f24 [AV.d (D.list 3 a0)] by kernel_rfl).trans (by kernel_rfl)
theorem F25.run (k : Nat) (a0_0 : Ovi.Rows) (a0_1 : Ovi.Rows) : C (k + 1) 25 [AV.agg [AV.d (D.list 1 a0_0), AV.d (D.list 2 a0_1)]] = bindR ((C k) 57 [AV.d (D.list 1 a0_0)]) fun r4 => bindL (resO 3 1 1 false 1 r4 0 0) fun l5 => bindR ((C k) 94 [AV.d (D.list 2 a0_1)]) fun r6 => bindL (resF 130 2 1 1 false 1 r6 0 0) fun l7 => some ([(true, [RL.row 3 1 l5, RL.frow 130 2 1 l7])]) := (show C (k + 1) 25 [AV.agg [AV.d (D.list 1 a0_0), AV.d (D.list 2 a0_1)]] = evFnK P hs (C k) 25 k Tryz.f25 [AV.agg [AV.d (D.list 1 a0_0), AV.d (D.list 2 a0_1)]] by kernel_rfl).trans (by kernel_rfl)
noncomputable def F27.L4 (k : Nat) (call : CallF)  (n : Nat) (v0 : Ovi.Rows) (v1 : Ovi.Rows) (v2 : Int) : Option Res := loopFn P hs call 27 k Tryz.f27 [1, 1, 0, 1, 0] [] n [(0, AV.d (D.list 3 v0)), (1, AV.d (D.list 3 v1)), (5, AV.d (D.int IntKind.i64 v2))] []
theorem F27.L4.succ (k : Nat) (call : CallF)  (n : Nat) (v0 : Ovi.Rows) (v1 : Ovi.Rows) (v2 : Int) : F27.L4 k call  (n + 1) v0 v1 v2 = ite' (decide (v2 < (↑(List.length v0) : Int))) (ite' (inR v2 (List.length v0)) (bindS (cellS v0 v2.toNat 0) fun s8 => bindI (cellI IntKind.i64 v0 v2.toNat 1) fun n9 => bindB (cellB v0 v2.toNat 2) fun b10 => ite' (inR v2 (List.length v1)) (bindS (cellS v1 v2.toNat 0) fun s11 => bindI (cellI IntKind.i64 v1 v2.toNat 1) fun n12 => bindB (cellB v1 v2.toNat 2) fun b13 => bindR (call 101 [AV.agg [AV.d (D.str s8), AV.d (D.int IntKind.i64 n9), AV.d (D.bool b10)], AV.agg [AV.d (D.str s11), AV.d (D.int IntKind.i64 n12), AV.d (D.bool b13)]]) fun r14 => bindB (resB 1 false 1 r14 0 0) fun b15 => ite' (!b15) (some ([(false, [RL.d (D.bool false)])])) (F27.L4 k call  (n) (v0) (v1) (IntKind.i64.wrap (v2 + (1 : Int))))) (none)) (none)) (some ([(false, [RL.d (D.bool true)])])) := by kernel_rfl
theorem F27.run (k : Nat) (a0 : Ovi.Rows) (a1 : Ovi.Rows) : C (k + 1) 27 [AV.d (D.list 3 a0), AV.d (D.list 3 a1)] = ite' ((↑(List.length a0) : Int) != (↑(List.length a1) : Int)) (some ([(false, [RL.d (D.bool false)])])) (F27.L4 k (C k)  (k) (a0) (a1) ((0 : Int))) := (show C (k + 1) 27 [AV.d (D.list 3 a0), AV.d (D.list 3 a1)] = evFnK P hs (C k) 27 k Tryz.f27 [AV.d (D.list 3 a0), AV.d (D.list 3 a1)] by kernel_rfl).trans (by kernel_rfl)
theorem F28.run (k : Nat) (a0_0 : Ovi.Rows) (a0_1 : Ovi.Rows) (a1_0 : Ovi.Rows) (a1_1 : Ovi.Rows) : C (k + 1) 28 [AV.agg [AV.d (D.list 1 a0_0), AV.d (D.list 2 a0_1)], AV.agg [AV.d (D.list 1 a1_0), AV.d (D.list 2 a1_1)]] = bindR ((C k) 60 [AV.d (D.list 1 a0_0), AV.d (D.list 1 a1_0)]) fun r6 => bindB (resB 1 false 1 r6 0 0) fun b7 => ite' (!b7) (some ([(false, [RL.d (D.bool false)])])) (bindR ((C k) 102 [AV.d (D.list 2 a0_1), AV.d (D.list 2 a1_1)]) fun r8 => bindB (resB 1 false 1 r8 0 0) fun b9 => ite' (!b9) (some ([(false, [RL.d (D.bool false)])])) (some ([(false, [RL.d (D.bool true)])]))) := (show C (k + 1) 28 [AV.agg [AV.d (D.list 1 a0_0), AV.d (D.list 2 a0_1)], AV.agg [AV.d (D.list 1 a1_0), AV.d (D.list 2 a1_1)]] = evFnK P hs (C k) 28 k Tryz.f28 [AV.agg [AV.d (D.list 1 a0_0), AV.d (D.list 2 a0_1)], AV.agg [AV.d (D.list 1 a1_0), AV.d (D.list 2 a1_1)]] by kernel_rfl).trans (by kernel_rfl)
noncomputable def F31.L6 (k : Nat) (call : CallF)  (n : Nat) (v0 : List (List D)) (v1 : Int) (v2 : Ovi.Rows) (v3 : Ovi.Rows) (v4 : Ovi.Rows) : Option Res := loopFn P hs call 31 k Tryz.f31 [1, 1, 1, 1, 0, 1, 0] [] n [(3, AV.var 192 0), (5, AV.d (D.list 1 v0)), (6, AV.own 100006 0), (7, AV.d (D.int IntKind.i64 v1))] [(192, Blk.var [AV.d (D.list 1 v2), AV.d (D.list 2 v3)]), (100006, Blk.arr 39 1 0 v4 (0, 0, 0))]
noncomputable def F31.L10 (k : Nat) (call : CallF) (k6 : Nat) (n : Nat) (v0 : List (List D)) (v1 : Int) (v2 : Int) (v3 : Ovi.Rows) (v4 : Ovi.Rows) (v5 : Ovi.Rows) (v6 : List (List D)) : Option Res := loopFn P hs call 31 k Tryz.f31 [1, 1, 1, 1, 0, 1, 0, 0, 1, 0, 0, 1, 0, 1, 0] [k6] n [(3, AV.var 192 0), (5, AV.d (D.list 1 v0)), (6, AV.own 100006 0), (7, AV.d (D.int IntKind.i64 v1)), (8, AV.own 100008 0), (9, AV.d (D.int IntKind.i64 v2))] [(192, Blk.var [AV.d (D.list 1 v3), AV.d (D.list 2 v4)]), (100006, Blk.arr 39 1 0 v5 (0, 0, 0)), (100008, Blk.arr 3 1 0 v6 (0, 0, 0))]
theorem F31.L6.succ (k : Nat) (call : CallF)  (n : Nat) (v0 : List (List D)) (v1 : Int) (v2 : Ovi.Rows) (v3 : Ovi.Rows) (v4 : Ovi.Rows) : F31.L6 k call  (n + 1) v0 v1 v2 v3 v4 = ite' (decide (v1 < (↑(List.length v4) : Int))) (F31.L10 k call n (k) (v0) (v1) ((0 : Int)) (v2) (v3) (v4) ([])) (some ([(false, [RL.d (D.list 1 v0)])])) := by kernel_rfl
theorem F31.L10.succ (k : Nat) (call : CallF) (k6 : Nat) (n : Nat) (v0 : List (List D)) (v1 : Int) (v2 : Int) (v3 : Ovi.Rows) (v4 : Ovi.Rows) (v5 : Ovi.Rows) (v6 : List (List D)) : F31.L10 k call k6 (n + 1) v0 v1 v2 v3 v4 v5 v6 = ite' (decide (v2 < (↑(List.length v3) : Int))) (ite' (inR v1 (List.length v5)) (bindL (cellL 1 v5 v1.toNat 0) fun l15 => ite' (inR v2 (List.length v3)) (bindI (cellI IntKind.i64 v3 v2.toNat 0) fun n16 => ite' (inR n16 (List.length l15)) (bindI (cellI IntKind.i64 l15 n16.toNat 0) fun n17 => ite' (fits (v6.length + [[D.int IntKind.i64 n17]].length)) (F31.L10 k call k6 (n) (v0) (v1) (IntKind.i64.wrap (v2 + (1 : Int))) (v3) (v4) (v5) (v6 ++ [[D.int IntKind.i64 n17]])) (none)) (none)) (none)) (none)) (bindR (call 106 [AV.d (D.list 1 v0), AV.d (D.list 1 v6)]) fun r15 => bindL (resL 1 1 false 1 r15 0 0) fun l16 => F31.L6 k call  (k6) (l16) (IntKind.i64.wrap (v1 + (1 : Int))) (v3) (v4) (v5)) := by kernel_rfl
theorem F31.run (k : Nat) (a0_0 : Ovi.Rows) (a0_1 : Ovi.Rows) (a1_0 : Ovi.Rows) (a1_1 : Ovi.Rows) : C (k + 1) 31 [AV.agg [AV.d (D.list 3 a0_0), AV.d (D.list 2 a0_1)], AV.agg [AV.d (D.list 1 a1_0), AV.d (D.list 2 a1_1)]] = bindR ((C k) 89 [AV.d (D.list 3 a0_0), AV.agg [AV.d (D.list 1 a1_0), AV.d (D.list 2 a1_1)]]) fun r6 => bindB (resB 1 false 1 r6 0 0) fun b7 => ite' (!b7) (some ([(false, [RL.nil])])) (bindR ((C k) 105 [AV.agg [AV.d (D.list 3 a0_0), AV.d (D.list 2 a0_1)], AV.d (D.list 2 a1_1)]) fun r8 => bindL (resO 39 1 1 false 1 r8 0 0) fun l9 => F31.L6 k (C k)  (k) ([]) ((0 : Int)) (a1_0) (a1_1) (l9)) := (show C (k + 1) 31 [AV.agg [AV.d (D.list 3 a0_0), AV.d (D.list 2 a0_1)], AV.agg [AV.d (D.list 1 a1_0), AV.d (D.list 2 a1_1)]] = evFnK P hs (C k) 31 k Tryz.f31 [AV.agg [AV.d (D.list 3 a0_0), AV.d (D.list 2 a0_1)], AV.agg [AV.d (D.list 1 a1_0), AV.d (D.list 2 a1_1)]] by kernel_rfl).trans (by kernel_rfl)
theorem F32.run (k : Nat) (a0_0 : Ovi.Rows) (a0_1 : Ovi.Rows) (a1_0 : Ovi.Rows) (a1_1 : Ovi.Rows) : C (k + 1) 32 [AV.agg [AV.d (D.list 3 a0_0), AV.d (D.list 2 a0_1)], AV.agg [AV.d (D.list 1 a1_0), AV.d (D.list 2 a1_1)]] = bindR ((C k) 95 [AV.d (D.list 3 a0_0), AV.agg [AV.d (D.list 1 a1_0), AV.d (D.list 2 a1_1)]]) fun r6 => bindB (resB 1 false 1 r6 0 0) fun b7 => ite' (!b7) (some ([(false, [RL.nil])])) (bindR ((C k) 107 [AV.agg [AV.d (D.list 3 a0_0), AV.d (D.list 2 a0_1)], AV.agg [AV.d (D.list 1 a1_0), AV.d (D.list 2 a1_1)], AV.d (D.fn 108 [])]) fun r8 => bindL (resF 39 1 1 1 false 1 r8 0 0) fun l9 => some ([(false, [RL.frow 39 1 1 l9])])) := (show C (k + 1) 32 [AV.agg [AV.d (D.list 3 a0_0), AV.d (D.list 2 a0_1)], AV.agg [AV.d (D.list 1 a1_0), AV.d (D.list 2 a1_1)]] = evFnK P hs (C k) 32 k Tryz.f32 [AV.agg [AV.d (D.list 3 a0_0), AV.d (D.list 2 a0_1)], AV.agg [AV.d (D.list 1 a1_0), AV.d (D.list 2 a1_1)]] by kernel_rfl).trans (by kernel_rfl)
noncomputable def F33.L4 (k : Nat) (call : CallF)  (n : Nat) (v0 : Ovi.Rows) (v1 : Ovi.Rows) (v2 : Int) : Option Res := loopFn P hs call 33 k Tryz.f33 [1, 1, 0, 1, 0] [] n [(0, AV.d (D.list 1 v0)), (1, AV.d (D.list 1 v1)), (5, AV.d (D.int IntKind.i64 v2))] []
theorem F33.L4.succ (k : Nat) (call : CallF)  (n : Nat) (v0 : Ovi.Rows) (v1 : Ovi.Rows) (v2 : Int) : F33.L4 k call  (n + 1) v0 v1 v2 = ite' (decide (v2 < (↑(List.length v0) : Int))) (ite' (inR v2 (List.length v0)) (bindL (cellL 1 v0 v2.toNat 0) fun l8 => ite' (inR v2 (List.length v1)) (bindL (cellL 1 v1 v2.toNat 0) fun l9 => bindR (call 60 [AV.d (D.list 1 l8), AV.d (D.list 1 l9)]) fun r10 => bindB (resB 1 false 1 r10 0 0) fun b11 => ite' (!b11) (some ([(false, [RL.d (D.bool false)])])) (F33.L4 k call  (n) (v0) (v1) (IntKind.i64.wrap (v2 + (1 : Int))))) (none)) (none)) (some ([(false, [RL.d (D.bool true)])])) := by kernel_rfl
theorem F33.run (k : Nat) (a0 : Ovi.Rows) (a1 : Ovi.Rows) : C (k + 1) 33 [AV.d (D.list 1 a0), AV.d (D.list 1 a1)] = ite' ((↑(List.length a0) : Int) != (↑(List.length a1) : Int)) (some ([(false, [RL.d (D.bool false)])])) (F33.L4 k (C k)  (k) (a0) (a1) ((0 : Int))) := (show C (k + 1) 33 [AV.d (D.list 1 a0), AV.d (D.list 1 a1)] = evFnK P hs (C k) 33 k Tryz.f33 [AV.d (D.list 1 a0), AV.d (D.list 1 a1)] by kernel_rfl).trans (by kernel_rfl)
noncomputable def F35.L2 (k : Nat) (call : CallF)  (n : Nat) (v0 : Ovi.Rows) (v1 : Int) (v2 : Int) : Option Res := loopFn P hs call 35 k Tryz.f35 [1, 0, 1, 0] [] n [(0, AV.d (D.list 1 v0)), (1, AV.d (D.int IntKind.i64 v1)), (5, AV.d (D.int IntKind.i64 v2))] []
theorem F35.L2.succ (k : Nat) (call : CallF)  (n : Nat) (v0 : Ovi.Rows) (v1 : Int) (v2 : Int) : F35.L2 k call  (n + 1) v0 v1 v2 = ite' (decide (v2 < (↑(List.length v0) : Int))) (ite' (inR v2 (List.length v0)) (bindL (cellL 1 v0 v2.toNat 0) fun l8 => bindR (call 109 [AV.d (D.list 1 l8), AV.d (D.int IntKind.i64 v1)]) fun r9 => bindI (resI IntKind.i64 1 false 1 r9 0 0) fun n10 => ite' (decide (n10 < (0 : Int))) (some ([(false, [RL.d (D.int IntKind.i64 (-1 : Int))])])) (F35.L2 k call  (n) (v0) (n10) (IntKind.i64.wrap (v2 + (1 : Int))))) (none)) (some ([(false, [RL.d (D.int IntKind.i64 v1)])])) := by kernel_rfl
theorem F35.run (k : Nat) (a0 : Ovi.Rows) (a1 : Int) : C (k + 1) 35 [AV.d (D.list 1 a0), AV.d (D.int IntKind.i64 a1)] = F35.L2 k (C k)  (k) (a0) (a1) ((0 : Int)) := (show C (k + 1) 35 [AV.d (D.list 1 a0), AV.d (D.int IntKind.i64 a1)] = evFnK P hs (C k) 35 k Tryz.f35 [AV.d (D.list 1 a0), AV.d (D.int IntKind.i64 a1)] by kernel_rfl).trans (by kernel_rfl)
noncomputable def F36.L4 (k : Nat) (call : CallF)  (n : Nat) (v0 : Ovi.Rows) (v1 : Int) (v2 : List (List D)) : Option Res := loopFn P hs call 36 k Tryz.f36 [1, 1, 1, 0, 1, 0] [] n [(5, AV.own 100005 0), (6, AV.d (D.list 1 v0)), (7, AV.d (D.int IntKind.i64 v1))] [(100005, Blk.arr 39 1 0 v2 (0, 0, 0))]
noncomputable def F36.L8 (k : Nat) (call : CallF) (k4 : Nat) (n : Nat) (v0 : Ovi.Rows) (v1 : Int) (v2 : Bool) (v3 : Int) (v4 : List (List D)) : Option Res := loopFn P hs call 36 k Tryz.f36 [1, 1, 1, 0, 1, 0, 0, 1, 0, 0, 1, 0, 1, 0] [k4] n [(5, AV.own 100005 0), (6, AV.d (D.list 1 v0)), (7, AV.d (D.int IntKind.i64 v1)), (8, AV.d (D.bool v2)), (9, AV.d (D.int IntKind.i64 v3))] [(100005, Blk.arr 39 1 0 v4 (0, 0, 0))]
theorem F36.L4.succ (k : Nat) (call : CallF)  (n : Nat) (v0 : Ovi.Rows) (v1 : Int) (v2 : List (List D)) : F36.L4 k call  (n + 1) v0 v1 v2 = ite' (decide (v1 < (↑(List.length v0) : Int))) (F36.L8 k call n (k) (v0) (v1) (true) ((0 : Int)) (v2)) (some ([(false, [RL.row 39 1 v2])])) := by kernel_rfl
theorem F36.L8.succ (k : Nat) (call : CallF) (k4 : Nat) (n : Nat) (v0 : Ovi.Rows) (v1 : Int) (v2 : Bool) (v3 : Int) (v4 : List (List D)) : F36.L8 k call k4 (n + 1) v0 v1 v2 v3 v4 = ite' (inR v1 (List.length v0)) (bindL (cellL 1 v0 v1.toNat 0) fun l13 => ite' (decide (v3 < (↑(List.length l13) : Int))) (ite' (v2) (ite' (inR v1 (List.length v0)) (bindL (cellL 1 v0 v1.toNat 0) fun l14 => ite' (inR v3 (List.length l14)) (bindI (cellI IntKind.i64 l14 v3.toNat 0) fun n15 => F36.L8 k call k4 (n) (v0) (v1) (decide (n15 ≥ (0 : Int))) (IntKind.i64.wrap (v3 + (1 : Int))) (v4)) (none)) (none)) (F36.L8 k call k4 (n) (v0) (v1) (false) (IntKind.i64.wrap (v3 + (1 : Int))) (v4))) (ite' (v2) (ite' (inR v1 (List.length v0)) (bindL (cellL 1 v0 v1.toNat 0) fun l14 => ite' (fits (v4.length + [[D.list 1 l14]].length)) (F36.L4 k call  (k4) (v0) (IntKind.i64.wrap (v1 + (1 : Int))) (v4 ++ [[D.list 1 l14]])) (none)) (none)) (F36.L4 k call  (k4) (v0) (IntKind.i64.wrap (v1 + (1 : Int))) (v4)))) (none) := by kernel_rfl
theorem F36.run (k : Nat) (a0_0 : Ovi.Rows) (a0_1 : Ovi.Rows) (a1_0 : Ovi.Rows) (a1_1 : Ovi.Rows) : C (k + 1) 36 [AV.agg [AV.d (D.list 3 a0_0), AV.d (D.list 2 a0_1)], AV.agg [AV.d (D.list 1 a1_0), AV.d (D.list 2 a1_1)]] = bindR ((C k) 31 [AV.agg [AV.d (D.list 3 a0_0), AV.d (D.list 2 a0_1)], AV.agg [AV.d (D.list 1 a1_0), AV.d (D.list 2 a1_1)]]) fun r6 => bindL (resL 1 1 false 1 r6 0 0) fun l7 => F36.L4 k (C k)  (k) (l7) ((0 : Int)) ([]) := (show C (k + 1) 36 [AV.agg [AV.d (D.list 3 a0_0), AV.d (D.list 2 a0_1)], AV.agg [AV.d (D.list 1 a1_0), AV.d (D.list 2 a1_1)]] = evFnK P hs (C k) 36 k Tryz.f36 [AV.agg [AV.d (D.list 3 a0_0), AV.d (D.list 2 a0_1)], AV.agg [AV.d (D.list 1 a1_0), AV.d (D.list 2 a1_1)]] by kernel_rfl).trans (by kernel_rfl)
theorem F37.run (k : Nat) (a0_0 : Ovi.Rows) (a0_1 : Ovi.Rows) (a1_0 : Ovi.Rows) (a1_1 : Ovi.Rows) : C (k + 1) 37 [AV.agg [AV.d (D.list 3 a0_0), AV.d (D.list 2 a0_1)], AV.agg [AV.d (D.list 1 a1_0), AV.d (D.list 2 a1_1)]] = bindR ((C k) 32 [AV.agg [AV.d (D.list 3 a0_0), AV.d (D.list 2 a0_1)], AV.agg [AV.d (D.list 1 a1_0), AV.d (D.list 2 a1_1)]]) fun r6 => bindL (resF 39 1 1 1 false 1 r6 0 0) fun l7 => ite' (depR 1 l7) (bindR ((C k) 110 [AV.var 0 0, AV.d (D.int IntKind.i64 (↑39 : Int)), AV.d (D.list 1 l7)]) fun r8 => bindL (resF 39 1 0 2 false 1 r8 0 0) fun l9 => some ([(false, [RL.frow 39 1 1 l9])])) (none) := (show C (k + 1) 37 [AV.agg [AV.d (D.list 3 a0_0), AV.d (D.list 2 a0_1)], AV.agg [AV.d (D.list 1 a1_0), AV.d (D.list 2 a1_1)]] = evFnK P hs (C k) 37 k Tryz.f37 [AV.agg [AV.d (D.list 3 a0_0), AV.d (D.list 2 a0_1)], AV.agg [AV.d (D.list 1 a1_0), AV.d (D.list 2 a1_1)]] by kernel_rfl).trans (by kernel_rfl)
theorem F38.run (k : Nat) (a0_0 : Ovi.Rows) (a0_1 : Ovi.Rows) (a0_2 : Int) (a0_3 : Int) (a1 : Int) : C (k + 1) 38 [AV.agg [AV.d (D.list 1 a0_0), AV.d (D.list 2 a0_1), AV.d (D.int IntKind.i64 a0_2), AV.d (D.int IntKind.i64 a0_3)], AV.d (D.int IntKind.i64 a1)] = bindR ((C k) 22 [AV.agg [AV.d (D.list 1 a0_0), AV.d (D.list 2 a0_1)], AV.d (D.int IntKind.i64 a1)]) fun r7 => bindI (resI IntKind.i64 1 false 1 r7 0 0) fun n8 => ite' (decide (n8 < (0 : Int))) (some ([(false, [RL.d (D.int IntKind.i64 (-1 : Int))])])) (some ([(false, [RL.d (D.int IntKind.i64 n8)])])) := (show C (k + 1) 38 [AV.agg [AV.d (D.list 1 a0_0), AV.d (D.list 2 a0_1), AV.d (D.int IntKind.i64 a0_2), AV.d (D.int IntKind.i64 a0_3)], AV.d (D.int IntKind.i64 a1)] = evFnK P hs (C k) 38 k Tryz.f38 [AV.agg [AV.d (D.list 1 a0_0), AV.d (D.list 2 a0_1), AV.d (D.int IntKind.i64 a0_2), AV.d (D.int IntKind.i64 a0_3)], AV.d (D.int IntKind.i64 a1)] by kernel_rfl).trans (by kernel_rfl)
noncomputable def F39.L6 (k : Nat) (call : CallF)  (n : Nat) (v0 : List (List D)) (v1 : Int) (v2 : Ovi.Rows) (v3 : Ovi.Rows) (v4 : Int) (v5 : Int) (v6 : Ovi.Rows) : Option Res := loopFn P hs call 39 k Tryz.f39 [1, 1, 1, 1, 0, 1, 0] [] n [(3, AV.var 192 0), (5, AV.d (D.list 1 v0)), (6, AV.own 100006 0), (7, AV.d (D.int IntKind.i64 v1))] [(192, Blk.var [AV.d (D.list 1 v2), AV.d (D.list 2 v3), AV.d (D.int IntKind.i64 v4), AV.d (D.int IntKind.i64 v5)]), (100006, Blk.arr 39 1 0 v6 (0, 0, 0))]
noncomputable def F39.L11 (k : Nat) (call : CallF) (k6 : Nat) (n : Nat) (v0 : List (List D)) (v1 : Int) (v2 : Int) (v3 : Ovi.Rows) (v4 : Ovi.Rows) (v5 : Int) (v6 : Int) (v7 : Ovi.Rows) (v8 : List (List D)) : Option Res := loopFn P hs call 39 k Tryz.f39 [1, 1, 1, 1, 0, 1, 0, 0, 1, 0, 0, 1, 1, 0, 1, 0] [k6] n [(3, AV.var 192 0), (5, AV.d (D.list 1 v0)), (6, AV.own 100006 0), (7, AV.d (D.int IntKind.i64 v1)), (8, AV.own 100008 0), (9, AV.d (D.int IntKind.i64 v2))] [(192, Blk.var [AV.d (D.list 1 v3), AV.d (D.list 2 v4), AV.d (D.int IntKind.i64 v5), AV.d (D.int IntKind.i64 v6)]), (100006, Blk.arr 39 1 0 v7 (0, 0, 0)), (100008, Blk.arr 3 1 0 v8 (0, 0, 0))]
theorem F39.L6.succ (k : Nat) (call : CallF)  (n : Nat) (v0 : List (List D)) (v1 : Int) (v2 : Ovi.Rows) (v3 : Ovi.Rows) (v4 : Int) (v5 : Int) (v6 : Ovi.Rows) : F39.L6 k call  (n + 1) v0 v1 v2 v3 v4 v5 v6 = ite' (decide (v1 < (↑(List.length v6) : Int))) (ite' (inR v1 (List.length v6)) (bindL (cellL 1 v6 v1.toNat 0) fun l16 => ite' (inR v4 (List.length l16)) (bindI (cellI IntKind.i64 l16 v4.toNat 0) fun n17 => ite' (inR v1 (List.length v6)) (bindL (cellL 1 v6 v1.toNat 0) fun l18 => ite' (inR v5 (List.length l18)) (bindI (cellI IntKind.i64 l18 v5.toNat 0) fun n19 => ite' (n17 == n19) (F39.L6 k call  (n) (v0) (IntKind.i64.wrap (v1 + (1 : Int))) (v2) (v3) (v4) (v5) (v6)) (F39.L11 k call n (k) (v0) (v1) ((0 : Int)) (v2) (v3) (v4) (v5) (v6) ([]))) (none)) (none)) (none)) (none)) (some ([(false, [RL.d (D.list 1 v0)])])) := by kernel_rfl
theorem F39.L11.succ (k : Nat) (call : CallF) (k6 : Nat) (n : Nat) (v0 : List (List D)) (v1 : Int) (v2 : Int) (v3 : Ovi.Rows) (v4 : Ovi.Rows) (v5 : Int) (v6 : Int) (v7 : Ovi.Rows) (v8 : List (List D)) : F39.L11 k call k6 (n + 1) v0 v1 v2 v3 v4 v5 v6 v7 v8 = ite' (decide (v2 < (↑(List.length v3) : Int))) (ite' (inR v1 (List.length v7)) (bindL (cellL 1 v7 v1.toNat 0) fun l19 => ite' (inR v2 (List.length v3)) (bindI (cellI IntKind.i64 v3 v2.toNat 0) fun n20 => ite' (inR n20 (List.length l19)) (bindI (cellI IntKind.i64 l19 n20.toNat 0) fun n21 => ite' (fits (v8.length + [[D.int IntKind.i64 n21]].length)) (F39.L11 k call k6 (n) (v0) (v1) (IntKind.i64.wrap (v2 + (1 : Int))) (v3) (v4) (v5) (v6) (v7) (v8 ++ [[D.int IntKind.i64 n21]])) (none)) (none)) (none)) (none)) (bindR (call 106 [AV.d (D.list 1 v0), AV.d (D.list 1 v8)]) fun r19 => bindL (resL 1 1 false 1 r19 0 0) fun l20 => F39.L6 k call  (k6) (l20) (IntKind.i64.wrap (v1 + (1 : Int))) (v3) (v4) (v5) (v6) (v7)) := by kernel_rfl
theorem F39.run (k : Nat) (a0_0 : Ovi.Rows) (a0_1 : Ovi.Rows) (a1_0 : Ovi.Rows) (a1_1 : Ovi.Rows) (a1_2 : Int) (a1_3 : Int) : C (k + 1) 39 [AV.agg [AV.d (D.list 3 a0_0), AV.d (D.list 2 a0_1)], AV.agg [AV.d (D.list 1 a1_0), AV.d (D.list 2 a1_1), AV.d (D.int IntKind.i64 a1_2), AV.d (D.int IntKind.i64 a1_3)]] = bindR ((C k) 111 [AV.d (D.list 3 a0_0), AV.agg [AV.d (D.list 1 a1_0), AV.d (D.list 2 a1_1), AV.d (D.int IntKind.i64 a1_2), AV.d (D.int IntKind.i64 a1_3)]]) fun r8 => bindB (resB 1 false 1 r8 0 0) fun b9 => ite' (!b9) (some ([(false, [RL.nil])])) (bindR ((C k) 105 [AV.agg [AV.d (D.list 3 a0_0), AV.d (D.list 2 a0_1)], AV.d (D.list 2 a1_1)]) fun r10 => bindL (resO 39 1 1 false 1 r10 0 0) fun l11 => F39.L6 k (C k)  (k) ([]) ((0 : Int)) (a1_0) (a1_1) (a1_2) (a1_3) (l11)) := (show C (k + 1) 39 [AV.agg [AV.d (D.list 3 a0_0), AV.d (D.list 2 a0_1)], AV.agg [AV.d (D.list 1 a1_0), AV.d (D.list 2 a1_1), AV.d (D.int IntKind.i64 a1_2), AV.d (D.int IntKind.i64 a1_3)]] = evFnK P hs (C k) 39 k Tryz.f39 [AV.agg [AV.d (D.list 3 a0_0), AV.d (D.list 2 a0_1)], AV.agg [AV.d (D.list 1 a1_0), AV.d (D.list 2 a1_1), AV.d (D.int IntKind.i64 a1_2), AV.d (D.int IntKind.i64 a1_3)]] by kernel_rfl).trans (by kernel_rfl)
theorem F40.run (k : Nat) (a0_0 : Ovi.Rows) (a0_1 : Ovi.Rows) (a0_2 : Int) (a0_3 : Int) : C (k + 1) 40 [AV.agg [AV.d (D.list 1 a0_0), AV.d (D.list 2 a0_1), AV.d (D.int IntKind.i64 a0_2), AV.d (D.int IntKind.i64 a0_3)]] = bindR ((C k) 25 [AV.agg [AV.d (D.list 1 a0_0), AV.d (D.list 2 a0_1)]]) fun r6 => bindL (resO 3 1 1 true 2 r6 0 0) fun l7 => bindL (resF 130 2 1 1 true 2 r6 0 1) fun l8 => some ([(true, [RL.row 3 1 l7, RL.frow 130 2 1 l8, RL.d (D.int IntKind.i64 a0_2), RL.d (D.int IntKind.i64 a0_3)])]) := (show C (k + 1) 40 [AV.agg [AV.d (D.list 1 a0_0), AV.d (D.list 2 a0_1), AV.d (D.int IntKind.i64 a0_2), AV.d (D.int IntKind.i64 a0_3)]] = evFnK P hs (C k) 40 k Tryz.f40 [AV.agg [AV.d (D.list 1 a0_0), AV.d (D.list 2 a0_1), AV.d (D.int IntKind.i64 a0_2), AV.d (D.int IntKind.i64 a0_3)]] by kernel_rfl).trans (by kernel_rfl)
theorem F41.run (k : Nat) (a0_0 : Ovi.Rows) (a0_1 : Ovi.Rows) (a1_0 : Ovi.Rows) (a1_1 : Ovi.Rows) (a1_2 : Int) (a1_3 : Int) : C (k + 1) 41 [AV.agg [AV.d (D.list 3 a0_0), AV.d (D.list 2 a0_1)], AV.agg [AV.d (D.list 1 a1_0), AV.d (D.list 2 a1_1), AV.d (D.int IntKind.i64 a1_2), AV.d (D.int IntKind.i64 a1_3)]] = bindR ((C k) 112 [AV.d (D.list 3 a0_0), AV.agg [AV.d (D.list 1 a1_0), AV.d (D.list 2 a1_1), AV.d (D.int IntKind.i64 a1_2), AV.d (D.int IntKind.i64 a1_3)]]) fun r8 => bindB (resB 1 false 1 r8 0 0) fun b9 => ite' (!b9) (some ([(false, [RL.nil])])) (bindR ((C k) 107 [AV.agg [AV.d (D.list 3 a0_0), AV.d (D.list 2 a0_1)], AV.agg [AV.d (D.list 1 a1_0), AV.d (D.list 2 a1_1)], AV.d (D.fn 113 [[D.list 1 a1_0, D.list 2 a1_1, D.int IntKind.i64 a1_2, D.int IntKind.i64 a1_3]])]) fun r10 => bindL (resF 39 1 1 1 false 1 r10 0 0) fun l11 => some ([(false, [RL.frow 39 1 1 l11])])) := (show C (k + 1) 41 [AV.agg [AV.d (D.list 3 a0_0), AV.d (D.list 2 a0_1)], AV.agg [AV.d (D.list 1 a1_0), AV.d (D.list 2 a1_1), AV.d (D.int IntKind.i64 a1_2), AV.d (D.int IntKind.i64 a1_3)]] = evFnK P hs (C k) 41 k Tryz.f41 [AV.agg [AV.d (D.list 3 a0_0), AV.d (D.list 2 a0_1)], AV.agg [AV.d (D.list 1 a1_0), AV.d (D.list 2 a1_1), AV.d (D.int IntKind.i64 a1_2), AV.d (D.int IntKind.i64 a1_3)]] by kernel_rfl).trans (by kernel_rfl)
theorem F42.run (k : Nat) (a0_0 : Ovi.Rows) (a0_1 : Ovi.Rows) (a0_2 : Int) (a0_3 : Int) (a1_0 : Ovi.Rows) (a1_1 : Ovi.Rows) (a1_2 : Int) (a1_3 : Int) : C (k + 1) 42 [AV.agg [AV.d (D.list 1 a0_0), AV.d (D.list 2 a0_1), AV.d (D.int IntKind.i64 a0_2), AV.d (D.int IntKind.i64 a0_3)], AV.agg [AV.d (D.list 1 a1_0), AV.d (D.list 2 a1_1), AV.d (D.int IntKind.i64 a1_2), AV.d (D.int IntKind.i64 a1_3)]] = bindR ((C k) 28 [AV.agg [AV.d (D.list 1 a0_0), AV.d (D.list 2 a0_1)], AV.agg [AV.d (D.list 1 a1_0), AV.d (D.list 2 a1_1)]]) fun r10 => bindB (resB 1 false 1 r10 0 0) fun b11 => ite' (!b11) (some ([(false, [RL.d (D.bool false)])])) (ite' (a0_2 != a1_2) (some ([(false, [RL.d (D.bool false)])])) (ite' (a0_3 != a1_3) (some ([(false, [RL.d (D.bool false)])])) (some ([(false, [RL.d (D.bool true)])])))) := (show C (k + 1) 42 [AV.agg [AV.d (D.list 1 a0_0), AV.d (D.list 2 a0_1), AV.d (D.int IntKind.i64 a0_2), AV.d (D.int IntKind.i64 a0_3)], AV.agg [AV.d (D.list 1 a1_0), AV.d (D.list 2 a1_1), AV.d (D.int IntKind.i64 a1_2), AV.d (D.int IntKind.i64 a1_3)]] = evFnK P hs (C k) 42 k Tryz.f42 [AV.agg [AV.d (D.list 1 a0_0), AV.d (D.list 2 a0_1), AV.d (D.int IntKind.i64 a0_2), AV.d (D.int IntKind.i64 a0_3)], AV.agg [AV.d (D.list 1 a1_0), AV.d (D.list 2 a1_1), AV.d (D.int IntKind.i64 a1_2), AV.d (D.int IntKind.i64 a1_3)]] by kernel_rfl).trans (by kernel_rfl)
noncomputable def F57.L3 (k : Nat) (call : CallF)  (n : Nat) (v0 : Ovi.Rows) (v1 : Int) (v2 : Ovi.Rows) : Option Res := loopFn P hs call 57 k Tryz.f57 [1, 1, 0, 1, 0] [] n [(0, AV.d (D.list 1 v0)), (3, AV.own 100003 0), (4, AV.d (D.int IntKind.i64 v1))] [(100003, Blk.arr 3 1 0 v2 (0, 0, 0))]
theorem F57.L3.succ (k : Nat) (call : CallF)  (n : Nat) (v0 : Ovi.Rows) (v1 : Int) (v2 : Ovi.Rows) : F57.L3 k call  (n + 1) v0 v1 v2 = ite' (decide (v1 < (↑(List.length v0) : Int))) (ite' (inR v1 (List.length v0)) (bindI (cellI IntKind.i64 v0 v1.toNat 0) fun n7 => ite' (inR v1 (List.length v2)) (F57.L3 k call  (n) (v0) (IntKind.i64.wrap (v1 + (1 : Int))) (rowsSet v2 v1.toNat 0 [D.int IntKind.i64 n7])) (none)) (none)) (some ([(false, [RL.row 3 1 v2])])) := by kernel_rfl
theorem F57.run (k : Nat) (a0 : Ovi.Rows) : C (k + 1) 57 [AV.d (D.list 1 a0)] = ite' ((↑(List.length a0) : Int) == (↑(List.length a0) : Int)) (ite' (inM (↑(List.length a0) : Int)) (F57.L3 k (C k)  (k) (a0) ((0 : Int)) (rowsOf (↑(List.length a0) : Int) [D.int IntKind.i64 (0 : Int)])) (none)) (none) := (show C (k + 1) 57 [AV.d (D.list 1 a0)] = evFnK P hs (C k) 57 k Tryz.f57 [AV.d (D.list 1 a0)] by kernel_rfl).trans (by kernel_rfl)
noncomputable def F60.L4 (k : Nat) (call : CallF)  (n : Nat) (v0 : Ovi.Rows) (v1 : Ovi.Rows) (v2 : Int) : Option Res := loopFn P hs call 60 k Tryz.f60 [1, 1, 0, 1, 0] [] n [(0, AV.d (D.list 1 v0)), (1, AV.d (D.list 1 v1)), (5, AV.d (D.int IntKind.i64 v2))] []
theorem F60.L4.succ (k : Nat) (call : CallF)  (n : Nat) (v0 : Ovi.Rows) (v1 : Ovi.Rows) (v2 : Int) : F60.L4 k call  (n + 1) v0 v1 v2 = ite' (decide (v2 < (↑(List.length v0) : Int))) (ite' (inR v2 (List.length v0)) (bindI (cellI IntKind.i64 v0 v2.toNat 0) fun n8 => ite' (inR v2 (List.length v1)) (bindI (cellI IntKind.i64 v1 v2.toNat 0) fun n9 => ite' (n8 != n9) (some ([(false, [RL.d (D.bool false)])])) (F60.L4 k call  (n) (v0) (v1) (IntKind.i64.wrap (v2 + (1 : Int))))) (none)) (none)) (some ([(false, [RL.d (D.bool true)])])) := by kernel_rfl
theorem F60.run (k : Nat) (a0 : Ovi.Rows) (a1 : Ovi.Rows) : C (k + 1) 60 [AV.d (D.list 1 a0), AV.d (D.list 1 a1)] = ite' ((↑(List.length a0) : Int) != (↑(List.length a1) : Int)) (some ([(false, [RL.d (D.bool false)])])) (F60.L4 k (C k)  (k) (a0) (a1) ((0 : Int))) := (show C (k + 1) 60 [AV.d (D.list 1 a0), AV.d (D.list 1 a1)] = evFnK P hs (C k) 60 k Tryz.f60 [AV.d (D.list 1 a0), AV.d (D.list 1 a1)] by kernel_rfl).trans (by kernel_rfl)
noncomputable def F66.L5 (k : Nat) (call : CallF)  (n : Nat) (v0 : Ovi.Rows) (v1 : Int) (v2 : Int) : Option Res := loopFn P hs call 66 k Tryz.f66 [1, 1, 1, 0, 1, 0] [] n [(0, AV.d (D.list 2 v0)), (1, AV.d (D.int IntKind.i64 v1)), (5, AV.d (D.int IntKind.i64 v2))] []
theorem F66.L5.succ (k : Nat) (call : CallF)  (n : Nat) (v0 : Ovi.Rows) (v1 : Int) (v2 : Int) : F66.L5 k call  (n + 1) v0 v1 v2 = ite' (decide (v2 < (↑(List.length v0) : Int))) (ite' (inR v2 (List.length v0)) (bindI (cellI IntKind.i64 v0 v2.toNat 0) fun n8 => bindL (cellL 1 v0 v2.toNat 1) fun l9 => bindR (call 142 [AV.agg [AV.d (D.int IntKind.i64 n8), AV.d (D.list 1 l9)], AV.d (D.int IntKind.i64 v1)]) fun r10 => bindI (resI IntKind.i64 1 false 1 r10 0 0) fun n11 => ite' (decide (n11 < (0 : Int))) (some ([(false, [RL.d (D.int IntKind.i64 (-1 : Int))])])) (F66.L5 k call  (n) (v0) (n11) (IntKind.i64.wrap (v2 + (1 : Int))))) (none)) (some ([(false, [RL.d (D.int IntKind.i64 v1)])])) := by kernel_rfl
theorem F66.run (k : Nat) (a0 : Ovi.Rows) (a1 : Int) : C (k + 1) 66 [AV.d (D.list 2 a0), AV.d (D.int IntKind.i64 a1)] = ite' (decide (IntKind.i64.wrap (a1 - (↑(List.length a0) : Int)) < (0 : Int))) (some ([(false, [RL.d (D.int IntKind.i64 (-1 : Int))])])) (F66.L5 k (C k)  (k) (a0) (IntKind.i64.wrap (a1 - (↑(List.length a0) : Int))) ((0 : Int))) := (show C (k + 1) 66 [AV.d (D.list 2 a0), AV.d (D.int IntKind.i64 a1)] = evFnK P hs (C k) 66 k Tryz.f66 [AV.d (D.list 2 a0), AV.d (D.int IntKind.i64 a1)] by kernel_rfl).trans (by kernel_rfl)
noncomputable def F67.L2 (k : Nat) (call : CallF)  (n : Nat) (v0 : Int) (v1 : Ovi.Rows) (v2 : Ovi.Rows) : Option Res := loopFn P hs call 67 k Tryz.f67 [1, 0, 1, 0] [] n [(1, AV.var 64 0), (3, AV.d (D.int IntKind.i64 v0))] [(64, Blk.var [AV.d (D.list 3 v1), AV.d (D.list 2 v2)])]
theorem F67.L2.succ (k : Nat) (call : CallF)  (n : Nat) (v0 : Int) (v1 : Ovi.Rows) (v2 : Ovi.Rows) : F67.L2 k call  (n + 1) v0 v1 v2 = ite' (decide (v0 < (↑(List.length v2) : Int))) (ite' (inR v0 (List.length v2)) (bindI (cellI IntKind.i64 v2 v0.toNat 0) fun n8 => bindL (cellL 1 v2 v0.toNat 1) fun l9 => bindR (call 143 [AV.d (D.list 3 v1), AV.agg [AV.d (D.int IntKind.i64 n8), AV.d (D.list 1 l9)]]) fun r10 => bindB (resB 1 false 1 r10 0 0) fun b11 => ite' (!b11) (some ([(false, [RL.d (D.bool false)])])) (ite' (decide (v0 > (0 : Int))) (ite' (inR (IntKind.i64.wrap (v0 - (1 : Int))) (List.length v2)) (bindI (cellI IntKind.i64 v2 (IntKind.i64.wrap (v0 - (1 : Int))).toNat 0) fun n12 => bindL (cellL 1 v2 (IntKind.i64.wrap (v0 - (1 : Int))).toNat 1) fun l13 => bindR (call 144 [AV.agg [AV.d (D.int IntKind.i64 n12), AV.d (D.list 1 l13)], AV.agg [AV.d (D.int IntKind.i64 n8), AV.d (D.list 1 l9)]]) fun r14 => bindI (resI IntKind.i64 1 false 1 r14 0 0) fun n15 => ite' (decide (n15 ≥ (0 : Int))) (some ([(false, [RL.d (D.bool false)])])) (ite' (inR n8 (List.length v1)) (bindB (cellB v1 n8.toNat 2) fun b16 => ite' (b16) (bindR (call 145 [AV.agg [AV.d (D.int IntKind.i64 n8), AV.d (D.list 1 l9)]]) fun r17 => bindL (resL 1 1 false 1 r17 0 0) fun l18 => ite' (decide ((↑(List.length l18) : Int) > (0 : Int))) (some ([(false, [RL.d (D.bool false)])])) (F67.L2 k call  (n) (IntKind.i64.wrap (v0 + (1 : Int))) (v1) (v2))) (F67.L2 k call  (n) (IntKind.i64.wrap (v0 + (1 : Int))) (v1) (v2))) (none))) (none)) (ite' (inR n8 (List.length v1)) (bindB (cellB v1 n8.toNat 2) fun b12 => ite' (b12) (bindR (call 145 [AV.agg [AV.d (D.int IntKind.i64 n8), AV.d (D.list 1 l9)]]) fun r13 => bindL (resL 1 1 false 1 r13 0 0) fun l14 => ite' (decide ((↑(List.length l14) : Int) > (0 : Int))) (some ([(false, [RL.d (D.bool false)])])) (F67.L2 k call  (n) (IntKind.i64.wrap (v0 + (1 : Int))) (v1) (v2))) (F67.L2 k call  (n) (IntKind.i64.wrap (v0 + (1 : Int))) (v1) (v2))) (none)))) (none)) (bindR (call 146 [AV.d (D.list 3 v1)]) fun r8 => bindB (resB 1 false 1 r8 0 0) fun b9 => ite' (b9) (some ([(false, [RL.d (D.bool (decide ((↑(List.length v2) : Int) ≤ (30 : Int))))])])) (some ([(false, [RL.d (D.bool false)])]))) := by kernel_rfl
theorem F67.run (k : Nat) (a0_0 : Ovi.Rows) (a0_1 : Ovi.Rows) : C (k + 1) 67 [AV.agg [AV.d (D.list 3 a0_0), AV.d (D.list 2 a0_1)]] = F67.L2 k (C k)  (k) ((0 : Int)) (a0_0) (a0_1) := (show C (k + 1) 67 [AV.agg [AV.d (D.list 3 a0_0), AV.d (D.list 2 a0_1)]] = evFnK P hs (C k) 67 k Tryz.f67 [AV.agg [AV.d (D.list 3 a0_0), AV.d (D.list 2 a0_1)]] by kernel_rfl).trans (by kernel_rfl)
theorem F68.run (k : Nat) (a0 : Int) (a1 : Int) (a2 : Int) : C (k + 1) 68 [AV.d (D.int IntKind.i64 a0), AV.d (D.int IntKind.i64 a1), AV.d (D.int IntKind.i64 a2)] = ite' (decide (a0 ≥ a1)) (some ([(false, [RL.d (D.bool (decide (a0 ≤ a2)))])])) (some ([(false, [RL.d (D.bool false)])])) := (show C (k + 1) 68 [AV.d (D.int IntKind.i64 a0), AV.d (D.int IntKind.i64 a1), AV.d (D.int IntKind.i64 a2)] = evFnK P hs (C k) 68 k Tryz.f68 [AV.d (D.int IntKind.i64 a0), AV.d (D.int IntKind.i64 a1), AV.d (D.int IntKind.i64 a2)] by kernel_rfl).trans (by kernel_rfl)
noncomputable def F72.L3 (k : Nat) (call : CallF)  (n : Nat) (v0 : Ovi.Rows) (v1 : Int) (v2 : Ovi.Rows) : Option Res := loopFn P hs call 72 k Tryz.f72 [1, 1, 0, 1, 0] [] n [(0, AV.d (D.list 2 v0)), (3, AV.own 100003 0), (4, AV.d (D.int IntKind.i64 v1))] [(100003, Blk.arr 118 2 0 v2 (1, 0, 0))]
theorem F72.L3.succ (k : Nat) (call : CallF)  (n : Nat) (v0 : Ovi.Rows) (v1 : Int) (v2 : Ovi.Rows) : F72.L3 k call  (n + 1) v0 v1 v2 = ite' (decide (v1 < (↑(List.length v0) : Int))) (ite' (inR v1 (List.length v0)) (bindI (cellI IntKind.i64 v0 v1.toNat 0) fun n7 => bindL (cellL 1 v0 v1.toNat 1) fun l8 => bindR (call 150 [AV.agg [AV.d (D.int IntKind.i64 n7), AV.d (D.list 1 l8)]]) fun r9 => bindI (resI IntKind.i64 1 true 2 r9 0 0) fun n10 => bindL (resO 3 1 1 true 2 r9 0 1) fun l11 => ite' (inR v1 (List.length v2)) (F72.L3 k call  (n) (v0) (IntKind.i64.wrap (v1 + (1 : Int))) (rowsSet v2 v1.toNat 0 [D.int IntKind.i64 n10, D.list 1 l11])) (none)) (none)) (some ([(false, [RL.frow 118 2 1 v2])])) := by kernel_rfl
theorem F72.run (k : Nat) (a0 : Ovi.Rows) : C (k + 1) 72 [AV.d (D.list 2 a0)] = ite' ((↑(List.length a0) : Int) == (↑(List.length a0) : Int)) (ite' (inM (↑(List.length a0) : Int)) (F72.L3 k (C k)  (k) (a0) ((0 : Int)) (rowsOf (↑(List.length a0) : Int) [D.int IntKind.i64 (0 : Int), D.list 1 []])) (none)) (none) := (show C (k + 1) 72 [AV.d (D.list 2 a0)] = evFnK P hs (C k) 72 k Tryz.f72 [AV.d (D.list 2 a0)] by kernel_rfl).trans (by kernel_rfl)
theorem F73.run (k : Nat) (a0 : Int) (a1 : Int) (a2 : Int) : C (k + 1) 73 [AV.d (D.int IntKind.i64 a0), AV.d (D.int IntKind.i64 a1), AV.d (D.int IntKind.i64 a2)] = ite' (decide (a1 ≤ a0)) (some ([(false, [RL.d (D.bool (decide (a0 ≤ a2)))])])) (some ([(false, [RL.d (D.bool false)])])) := (show C (k + 1) 73 [AV.d (D.int IntKind.i64 a0), AV.d (D.int IntKind.i64 a1), AV.d (D.int IntKind.i64 a2)] = evFnK P hs (C k) 73 k Tryz.f73 [AV.d (D.int IntKind.i64 a0), AV.d (D.int IntKind.i64 a1), AV.d (D.int IntKind.i64 a2)] by kernel_rfl).trans (by kernel_rfl)
noncomputable def F76.L4 (k : Nat) (call : CallF)  (n : Nat) (v0 : Ovi.Rows) (v1 : Ovi.Rows) (v2 : Int) : Option Res := loopFn P hs call 76 k Tryz.f76 [1, 1, 0, 1, 0] [] n [(0, AV.d (D.list 2 v0)), (1, AV.d (D.list 2 v1)), (5, AV.d (D.int IntKind.i64 v2))] []
theorem F76.L4.succ (k : Nat) (call : CallF)  (n : Nat) (v0 : Ovi.Rows) (v1 : Ovi.Rows) (v2 : Int) : F76.L4 k call  (n + 1) v0 v1 v2 = ite' (decide (v2 < (↑(List.length v0) : Int))) (ite' (inR v2 (List.length v0)) (bindI (cellI IntKind.i64 v0 v2.toNat 0) fun n8 => bindL (cellL 1 v0 v2.toNat 1) fun l9 => ite' (inR v2 (List.length v1)) (bindI (cellI IntKind.i64 v1 v2.toNat 0) fun n10 => bindL (cellL 1 v1 v2.toNat 1) fun l11 => bindR (call 153 [AV.agg [AV.d (D.int IntKind.i64 n8), AV.d (D.list 1 l9)], AV.agg [AV.d (D.int IntKind.i64 n10), AV.d (D.list 1 l11)]]) fun r12 => bindB (resB 1 false 1 r12 0 0) fun b13 => ite' (!b13) (some ([(false, [RL.d (D.bool false)])])) (F76.L4 k call  (n) (v0) (v1) (IntKind.i64.wrap (v2 + (1 : Int))))) (none)) (none)) (some ([(false, [RL.d (D.bool true)])])) := by kernel_rfl
theorem F76.run (k : Nat) (a0 : Ovi.Rows) (a1 : Ovi.Rows) : C (k + 1) 76 [AV.d (D.list 2 a0), AV.d (D.list 2 a1)] = ite' ((↑(List.length a0) : Int) != (↑(List.length a1) : Int)) (some ([(false, [RL.d (D.bool false)])])) (F76.L4 k (C k)  (k) (a0) (a1) ((0 : Int))) := (show C (k + 1) 76 [AV.d (D.list 2 a0), AV.d (D.list 2 a1)] = evFnK P hs (C k) 76 k Tryz.f76 [AV.d (D.list 2 a0), AV.d (D.list 2 a1)] by kernel_rfl).trans (by kernel_rfl)
theorem F80.run (k : Nat) (a0 : Int) : C (k + 1) 80 [AV.d (D.int IntKind.i64 a0)] = ite' (decide (a0 ≥ (0 : Int))) (some ([(false, [RL.d (D.int IntKind.i64 (0 : Int))]), (false, [RL.d (D.bool false)])])) (bindR ((C k) 68 [AV.d (D.int IntKind.i64 (IntKind.i64.wrap ((-1 : Int) - a0))), AV.d (D.int IntKind.i64 (0 : Int)), AV.d (D.int IntKind.i64 (39 : Int))]) fun r3 => bindB (resB 1 false 1 r3 0 0) fun b4 => ite' (!b4) (some ([(false, [RL.d (D.int IntKind.i64 (0 : Int))]), (false, [RL.d (D.bool false)])])) (some ([(false, [RL.d (D.int IntKind.i64 (IntKind.i64.wrap ((-1 : Int) - a0)))]), (false, [RL.d (D.bool true)])]))) := (show C (k + 1) 80 [AV.d (D.int IntKind.i64 a0)] = evFnK P hs (C k) 80 k Tryz.f80 [AV.d (D.int IntKind.i64 a0)] by kernel_rfl).trans (by kernel_rfl)
noncomputable def F81.L2 (k : Nat) (call : CallF)  (n : Nat) (v0 : Ovi.Rows) (v1 : Int) (v2 : Int) : Option Res := loopFn P hs call 81 k Tryz.f81 [1, 0, 1, 0] [] n [(0, AV.d (D.list 1 v0)), (1, AV.d (D.int IntKind.i64 v1)), (5, AV.d (D.int IntKind.i64 v2))] []
theorem F81.L2.succ (k : Nat) (call : CallF)  (n : Nat) (v0 : Ovi.Rows) (v1 : Int) (v2 : Int) : F81.L2 k call  (n + 1) v0 v1 v2 = ite' (decide (v2 < (↑(List.length v0) : Int))) (ite' (inR v2 (List.length v0)) (bindI (cellI IntKind.i64 v0 v2.toNat 0) fun n8 => ite' (n8 == v1) (some ([(false, [RL.d (D.bool true)])])) (F81.L2 k call  (n) (v0) (v1) (IntKind.i64.wrap (v2 + (1 : Int))))) (none)) (some ([(false, [RL.d (D.bool false)])])) := by kernel_rfl
theorem F81.run (k : Nat) (a0 : Ovi.Rows) (a1 : Int) : C (k + 1) 81 [AV.d (D.list 1 a0), AV.d (D.int IntKind.i64 a1)] = F81.L2 k (C k)  (k) (a0) (a1) ((0 : Int)) := (show C (k + 1) 81 [AV.d (D.list 1 a0), AV.d (D.int IntKind.i64 a1)] = evFnK P hs (C k) 81 k Tryz.f81 [AV.d (D.list 1 a0), AV.d (D.int IntKind.i64 a1)] by kernel_rfl).trans (by kernel_rfl)
theorem F82.run (k : Nat) (a0 : Int) : C (k + 1) 82 [AV.d (D.int IntKind.i64 a0)] = bindR ((C k) 73 [AV.d (D.int IntKind.i64 (IntKind.i64.wrap ((-1 : Int) - a0))), AV.d (D.int IntKind.i64 (0 : Int)), AV.d (D.int IntKind.i64 (39 : Int))]) fun r3 => bindB (resB 1 false 1 r3 0 0) fun b4 => ite' (!b4) (some ([(false, [RL.d (D.int IntKind.i64 (0 : Int))]), (false, [RL.d (D.bool false)])])) (some ([(false, [RL.d (D.int IntKind.i64 (IntKind.i64.wrap ((-1 : Int) - a0)))]), (false, [RL.d (D.bool true)])])) := (show C (k + 1) 82 [AV.d (D.int IntKind.i64 a0)] = evFnK P hs (C k) 82 k Tryz.f82 [AV.d (D.int IntKind.i64 a0)] by kernel_rfl).trans (by kernel_rfl)
theorem F83.run (k : Nat) (a0 : Ovi.Rows) (a1 : Int) : C (k + 1) 83 [AV.d (D.list 1 a0), AV.d (D.int IntKind.i64 a1)] = bindR ((C k) 85 [AV.d (D.list 1 a0), AV.d (D.int IntKind.i64 a1)]) fun r4 => bindI (resI IntKind.i64 1 false 1 r4 0 0) fun n5 => some ([(false, [RL.d (D.bool (decide (n5 ≥ (0 : Int))))])]) := (show C (k + 1) 83 [AV.d (D.list 1 a0), AV.d (D.int IntKind.i64 a1)] = evFnK P hs (C k) 83 k Tryz.f83 [AV.d (D.list 1 a0), AV.d (D.int IntKind.i64 a1)] by kernel_rfl).trans (by kernel_rfl)
noncomputable def F85.L2 (k : Nat) (call : CallF)  (n : Nat) (v0 : Ovi.Rows) (v1 : Int) (v2 : Int) (v3 : Int) : Option Res := loopFn P hs call 85 k Tryz.f85 [1, 0, 1, 0] [] n [(0, AV.d (D.list 1 v0)), (1, AV.d (D.int IntKind.i64 v1)), (7, AV.d (D.int IntKind.i64 v2)), (8, AV.d (D.int IntKind.i64 v3))] []
theorem F85.L2.succ (k : Nat) (call : CallF)  (n : Nat) (v0 : Ovi.Rows) (v1 : Int) (v2 : Int) (v3 : Int) : F85.L2 k call  (n + 1) v0 v1 v2 v3 = ite' (decide (v3 < v2)) (ite' (inR v3 (List.length v0)) (bindI (cellI IntKind.i64 v0 v3.toNat 0) fun n9 => ite' (v1 == n9) (some ([(false, [RL.d (D.int IntKind.i64 v3)])])) (F85.L2 k call  (n) (v0) (v1) (v2) (IntKind.i64.wrap (v3 + (1 : Int))))) (none)) (some ([(false, [RL.d (D.int IntKind.i64 (-1 : Int))])])) := by kernel_rfl
theorem F85.run (k : Nat) (a0 : Ovi.Rows) (a1 : Int) : C (k + 1) 85 [AV.d (D.list 1 a0), AV.d (D.int IntKind.i64 a1)] = F85.L2 k (C k)  (k) (a0) (a1) ((↑(List.length a0) : Int)) ((0 : Int)) := (show C (k + 1) 85 [AV.d (D.list 1 a0), AV.d (D.int IntKind.i64 a1)] = evFnK P hs (C k) 85 k Tryz.f85 [AV.d (D.list 1 a0), AV.d (D.int IntKind.i64 a1)] by kernel_rfl).trans (by kernel_rfl)
theorem F86.run (k : Nat) (a0_0 : List UInt8) (a0_1 : Int) (a0_2 : Bool) (a1 : Int) : C (k + 1) 86 [AV.agg [AV.d (D.str a0_0), AV.d (D.int IntKind.i64 a0_1), AV.d (D.bool a0_2)], AV.d (D.int IntKind.i64 a1)] = ite' (decide (IntKind.i64.wrap (a1 - (↑a0_0.length : Int)) < (0 : Int))) (some ([(false, [RL.d (D.int IntKind.i64 (-1 : Int))])])) (some ([(false, [RL.d (D.int IntKind.i64 (IntKind.i64.wrap (a1 - (↑a0_0.length : Int))))])])) := (show C (k + 1) 86 [AV.agg [AV.d (D.str a0_0), AV.d (D.int IntKind.i64 a0_1), AV.d (D.bool a0_2)], AV.d (D.int IntKind.i64 a1)] = evFnK P hs (C k) 86 k Tryz.f86 [AV.agg [AV.d (D.str a0_0), AV.d (D.int IntKind.i64 a0_1), AV.d (D.bool a0_2)], AV.d (D.int IntKind.i64 a1)] by kernel_rfl).trans (by kernel_rfl)
theorem F87.run (k : Nat) (a0 : Ovi.Rows) (a1 : Int) : C (k + 1) 87 [AV.d (D.list 1 a0), AV.d (D.int IntKind.i64 a1)] = ite' (decide (IntKind.i64.wrap (a1 - (↑(List.length a0) : Int)) < (0 : Int))) (some ([(false, [RL.d (D.int IntKind.i64 (-1 : Int))])])) (some ([(false, [RL.d (D.int IntKind.i64 (IntKind.i64.wrap (a1 - (↑(List.length a0) : Int))))])])) := (show C (k + 1) 87 [AV.d (D.list 1 a0), AV.d (D.int IntKind.i64 a1)] = evFnK P hs (C k) 87 k Tryz.f87 [AV.d (D.list 1 a0), AV.d (D.int IntKind.i64 a1)] by kernel_rfl).trans (by kernel_rfl)
noncomputable def F88.L5 (k : Nat) (call : CallF)  (n : Nat) (v0 : Ovi.Rows) (v1 : Int) (v2 : Int) : Option Res := loopFn P hs call 88 k Tryz.f88 [1, 1, 1, 0, 1, 0] [] n [(0, AV.d (D.list 2 v0)), (1, AV.d (D.int IntKind.i64 v1)), (5, AV.d (D.int IntKind.i64 v2))] []
theorem F88.L5.succ (k : Nat) (call : CallF)  (n : Nat) (v0 : Ovi.Rows) (v1 : Int) (v2 : Int) : F88.L5 k call  (n + 1) v0 v1 v2 = ite' (decide (v2 < (↑(List.length v0) : Int))) (ite' (inR v2 (List.length v0)) (bindI (cellI IntKind.i64 v0 v2.toNat 0) fun n8 => bindL (cellL 1 v0 v2.toNat 1) fun l9 => bindR (call 154 [AV.agg [AV.d (D.int IntKind.i64 n8), AV.d (D.list 1 l9)], AV.d (D.int IntKind.i64 v1)]) fun r10 => bindI (resI IntKind.i64 1 false 1 r10 0 0) fun n11 => ite' (decide (n11 < (0 : Int))) (some ([(false, [RL.d (D.int IntKind.i64 (-1 : Int))])])) (F88.L5 k call  (n) (v0) (n11) (IntKind.i64.wrap (v2 + (1 : Int))))) (none)) (some ([(false, [RL.d (D.int IntKind.i64 v1)])])) := by kernel_rfl
theorem F88.run (k : Nat) (a0 : Ovi.Rows) (a1 : Int) : C (k + 1) 88 [AV.d (D.list 2 a0), AV.d (D.int IntKind.i64 a1)] = ite' (decide (IntKind.i64.wrap (a1 - (↑(List.length a0) : Int)) < (0 : Int))) (some ([(false, [RL.d (D.int IntKind.i64 (-1 : Int))])])) (F88.L5 k (C k)  (k) (a0) (IntKind.i64.wrap (a1 - (↑(List.length a0) : Int))) ((0 : Int))) := (show C (k + 1) 88 [AV.d (D.list 2 a0), AV.d (D.int IntKind.i64 a1)] = evFnK P hs (C k) 88 k Tryz.f88 [AV.d (D.list 2 a0), AV.d (D.int IntKind.i64 a1)] by kernel_rfl).trans (by kernel_rfl)
noncomputable def F89.L3 (k : Nat) (call : CallF)  (n : Nat) (v0 : Ovi.Rows) (v1 : Ovi.Rows) (v2 : Int) (v3 : Ovi.Rows) (v4 : Ovi.Rows) : Option Res := loopFn P hs call 89 k Tryz.f89 [1, 1, 0, 1, 0] [] n [(0, AV.d (D.list 3 v0)), (3, AV.var 192 0), (5, AV.d (D.list 1 v1)), (6, AV.d (D.int IntKind.i64 v2))] [(192, Blk.var [AV.d (D.list 1 v3), AV.d (D.list 2 v4)])]
noncomputable def F89.L8 (k : Nat) (call : CallF)  (n : Nat) (v0 : Ovi.Rows) (v1 : Int) (v2 : Ovi.Rows) (v3 : Ovi.Rows) : Option Res := loopFn P hs call 89 k Tryz.f89 [1, 1, 1, 0, 1, 0] [] n [(3, AV.var 192 0), (5, AV.d (D.list 1 v0)), (7, AV.d (D.int IntKind.i64 v1))] [(192, Blk.var [AV.d (D.list 1 v2), AV.d (D.list 2 v3)])]
theorem F89.L3.succ (k : Nat) (call : CallF)  (n : Nat) (v0 : Ovi.Rows) (v1 : Ovi.Rows) (v2 : Int) (v3 : Ovi.Rows) (v4 : Ovi.Rows) : F89.L3 k call  (n + 1) v0 v1 v2 v3 v4 = ite' (decide (v2 < (↑(List.length v4) : Int))) (ite' (inR v2 (List.length v4)) (bindI (cellI IntKind.i64 v4 v2.toNat 0) fun n11 => bindL (cellL 1 v4 v2.toNat 1) fun l12 => bindR (call 156 [AV.d (D.list 3 v0), AV.agg [AV.d (D.int IntKind.i64 n11), AV.d (D.list 1 l12)]]) fun r13 => bindB (resB 1 false 1 r13 0 0) fun b14 => ite' (!b14) (some ([(false, [RL.d (D.bool false)])])) (F89.L3 k call  (n) (v0) (v1) (IntKind.i64.wrap (v2 + (1 : Int))) (v3) (v4))) (none)) (F89.L8 k call  (k) (v1) ((0 : Int)) (v3) (v4)) := by kernel_rfl
theorem F89.L8.succ (k : Nat) (call : CallF)  (n : Nat) (v0 : Ovi.Rows) (v1 : Int) (v2 : Ovi.Rows) (v3 : Ovi.Rows) : F89.L8 k call  (n + 1) v0 v1 v2 v3 = ite' (decide (v1 < (↑(List.length v2) : Int))) (ite' (inR v1 (List.length v2)) (bindI (cellI IntKind.i64 v2 v1.toNat 0) fun n10 => bindR (call 81 [AV.d (D.list 1 v0), AV.d (D.int IntKind.i64 n10)]) fun r11 => bindB (resB 1 false 1 r11 0 0) fun b12 => ite' (!b12) (some ([(false, [RL.d (D.bool false)])])) (F89.L8 k call  (n) (v0) (IntKind.i64.wrap (v1 + (1 : Int))) (v2) (v3))) (none)) (bindR (call 68 [AV.d (D.int IntKind.i64 (↑(List.length v3) : Int)), AV.d (D.int IntKind.i64 (1 : Int)), AV.d (D.int IntKind.i64 (3 : Int))]) fun r10 => bindB (resB 1 false 1 r10 0 0) fun b11 => ite' (b11) (some ([(false, [RL.d (D.bool (decide ((↑(List.length v2) : Int) ≤ (3 : Int))))])])) (some ([(false, [RL.d (D.bool false)])]))) := by kernel_rfl
theorem F89.run (k : Nat) (a0 : Ovi.Rows) (a1_0 : Ovi.Rows) (a1_1 : Ovi.Rows) : C (k + 1) 89 [AV.d (D.list 3 a0), AV.agg [AV.d (D.list 1 a1_0), AV.d (D.list 2 a1_1)]] = bindR ((C k) 155 [AV.d (D.list 2 a1_1)]) fun r5 => bindL (resL 1 1 false 1 r5 0 0) fun l6 => F89.L3 k (C k)  (k) (a0) (l6) ((0 : Int)) (a1_0) (a1_1) := (show C (k + 1) 89 [AV.d (D.list 3 a0), AV.agg [AV.d (D.list 1 a1_0), AV.d (D.list 2 a1_1)]] = evFnK P hs (C k) 89 k Tryz.f89 [AV.d (D.list 3 a0), AV.agg [AV.d (D.list 1 a1_0), AV.d (D.list 2 a1_1)]] by kernel_rfl).trans (by kernel_rfl)
theorem F93.run (k : Nat) (a0_0 : List UInt8) (a0_1 : Int) (a0_2 : Bool) : C (k + 1) 93 [AV.agg [AV.d (D.str a0_0), AV.d (D.int IntKind.i64 a0_1), AV.d (D.bool a0_2)]] = some ([(true, [RL.d (D.str a0_0), RL.d (D.int IntKind.i64 a0_1), RL.d (D.bool a0_2)])]) := (show C (k + 1) 93 [AV.agg [AV.d (D.str a0_0), AV.d (D.int IntKind.i64 a0_1), AV.d (D.bool a0_2)]] = evFnK P hs (C k) 93 k Tryz.f93 [AV.agg [AV.d (D.str a0_0), AV.d (D.int IntKind.i64 a0_1), AV.d (D.bool a0_2)]] by kernel_rfl).trans (by kernel_rfl)
noncomputable def F94.L3 (k : Nat) (call : CallF)  (n : Nat) (v0 : Ovi.Rows) (v1 : Int) (v2 : Ovi.Rows) : Option Res := loopFn P hs call 94 k Tryz.f94 [1, 1, 0, 1, 0] [] n [(0, AV.d (D.list 2 v0)), (3, AV.own 100003 0), (4, AV.d (D.int IntKind.i64 v1))] [(100003, Blk.arr 130 2 0 v2 (1, 0, 0))]
theorem F94.L3.succ (k : Nat) (call : CallF)  (n : Nat) (v0 : Ovi.Rows) (v1 : Int) (v2 : Ovi.Rows) : F94.L3 k call  (n + 1) v0 v1 v2 = ite' (decide (v1 < (↑(List.length v0) : Int))) (ite' (inR v1 (List.length v0)) (bindI (cellI IntKind.i64 v0 v1.toNat 0) fun n7 => bindL (cellL 1 v0 v1.toNat 1) fun l8 => bindR (call 160 [AV.agg [AV.d (D.int IntKind.i64 n7), AV.d (D.list 1 l8)]]) fun r9 => bindI (resI IntKind.i64 1 true 2 r9 0 0) fun n10 => bindL (resO 3 1 1 true 2 r9 0 1) fun l11 => ite' (inR v1 (List.length v2)) (F94.L3 k call  (n) (v0) (IntKind.i64.wrap (v1 + (1 : Int))) (rowsSet v2 v1.toNat 0 [D.int IntKind.i64 n10, D.list 1 l11])) (none)) (none)) (some ([(false, [RL.frow 130 2 1 v2])])) := by kernel_rfl
theorem F94.run (k : Nat) (a0 : Ovi.Rows) : C (k + 1) 94 [AV.d (D.list 2 a0)] = ite' ((↑(List.length a0) : Int) == (↑(List.length a0) : Int)) (ite' (inM (↑(List.length a0) : Int)) (F94.L3 k (C k)  (k) (a0) ((0 : Int)) (rowsOf (↑(List.length a0) : Int) [D.int IntKind.i64 (0 : Int), D.list 1 []])) (none)) (none) := (show C (k + 1) 94 [AV.d (D.list 2 a0)] = evFnK P hs (C k) 94 k Tryz.f94 [AV.d (D.list 2 a0)] by kernel_rfl).trans (by kernel_rfl)
theorem F95.run (k : Nat) (a0 : Ovi.Rows) (a1_0 : Ovi.Rows) (a1_1 : Ovi.Rows) : C (k + 1) 95 [AV.d (D.list 3 a0), AV.agg [AV.d (D.list 1 a1_0), AV.d (D.list 2 a1_1)]] = bindR ((C k) 161 [AV.d (D.list 2 a1_1)]) fun r5 => bindL (resO 3 1 1 false 1 r5 0 0) fun l6 => bindR ((C k) 162 [AV.d (D.list 3 a0), AV.d (D.list 2 a1_1), AV.d (D.int IntKind.i64 (3 : Int))]) fun r7 => bindB (resB 1 false 1 r7 0 0) fun b8 => ite' (b8) (ite' (decide ((↑(List.length a1_0) : Int) ≤ (3 : Int))) (bindR ((C k) 163 [AV.d (D.list 1 a1_0), AV.d (D.fn 164 [[D.list 1 l6]])]) fun r9 => bindB (resB 1 false 1 r9 0 0) fun b10 => some ([(false, [RL.d (D.bool !b10)])])) (some ([(false, [RL.d (D.bool false)])]))) (some ([(false, [RL.d (D.bool false)])])) := (show C (k + 1) 95 [AV.d (D.list 3 a0), AV.agg [AV.d (D.list 1 a1_0), AV.d (D.list 2 a1_1)]] = evFnK P hs (C k) 95 k Tryz.f95 [AV.d (D.list 3 a0), AV.agg [AV.d (D.list 1 a1_0), AV.d (D.list 2 a1_1)]] by kernel_rfl).trans (by kernel_rfl)
noncomputable def F100.L4 (k : Nat) (call : CallF)  (n : Nat) (v0 : Ovi.Rows) (v1 : Int) (v2 : Int) (v3 : Ovi.Rows) (v4 : Ovi.Rows) : Option Res := loopFn P hs call 100 k Tryz.f100 [1, 1, 0, 1, 0] [] n [(1, AV.var 64 0), (16, AV.d (D.list 2 v0)), (17, AV.d (D.int IntKind.i64 v1)), (18, AV.d (D.int IntKind.i64 v2))] [(64, Blk.var [AV.d (D.list 3 v3), AV.d (D.list 2 v4)])]
theorem F100.L4.succ (k : Nat) (call : CallF)  (n : Nat) (v0 : Ovi.Rows) (v1 : Int) (v2 : Int) (v3 : Ovi.Rows) (v4 : Ovi.Rows) : F100.L4 k call  (n + 1) v0 v1 v2 v3 v4 = ite' (decide (v2 < v1)) (ite' (inR v2 (List.length v0)) (bindI (cellI IntKind.i64 v0 v2.toNat 0) fun n10 => bindL (cellL 1 v0 v2.toNat 1) fun l11 => bindR (call 173 [AV.d (D.list 3 v3), AV.agg [AV.d (D.int IntKind.i64 n10), AV.d (D.list 1 l11)]]) fun r12 => bindB (resB 1 false 1 r12 0 0) fun b13 => ite' (!b13) (some ([(false, [RL.d (D.bool false)])])) (ite' (decide (v2 > (0 : Int))) (ite' (inR (IntKind.i64.wrap (v2 - (1 : Int))) (List.length v4)) (bindI (cellI IntKind.i64 v4 (IntKind.i64.wrap (v2 - (1 : Int))).toNat 0) fun n14 => bindL (cellL 1 v4 (IntKind.i64.wrap (v2 - (1 : Int))).toNat 1) fun l15 => bindR (call 169 [AV.agg [AV.d (D.int IntKind.i64 n14), AV.d (D.list 1 l15)], AV.agg [AV.d (D.int IntKind.i64 n10), AV.d (D.list 1 l11)]]) fun r16 => bindI (resI IntKind.i64 1 false 1 r16 0 0) fun n17 => ite' (decide (n17 ≥ (0 : Int))) (some ([(false, [RL.d (D.bool false)])])) (ite' (inR n10 (List.length v3)) (bindB (cellB v3 n10.toNat 2) fun b18 => ite' (b18) (bindR (call 174 [AV.agg [AV.d (D.int IntKind.i64 n10), AV.d (D.list 1 l11)]]) fun r19 => bindL (resO 3 1 1 false 1 r19 0 0) fun l20 => ite' (decide ((↑(List.length l20) : Int) > (0 : Int))) (some ([(false, [RL.d (D.bool false)])])) (F100.L4 k call  (n) (v0) (v1) (IntKind.i64.wrap (v2 + (1 : Int))) (v3) (v4))) (F100.L4 k call  (n) (v0) (v1) (IntKind.i64.wrap (v2 + (1 : Int))) (v3) (v4))) (none))) (none)) (ite' (inR n10 (List.length v3)) (bindB (cellB v3 n10.toNat 2) fun b14 => ite' (b14) (bindR (call 174 [AV.agg [AV.d (D.int IntKind.i64 n10), AV.d (D.list 1 l11)]]) fun r15 => bindL (resO 3 1 1 false 1 r15 0 0) fun l16 => ite' (decide ((↑(List.length l16) : Int) > (0 : Int))) (some ([(false, [RL.d (D.bool false)])])) (F100.L4 k call  (n) (v0) (v1) (IntKind.i64.wrap (v2 + (1 : Int))) (v3) (v4))) (F100.L4 k call  (n) (v0) (v1) (IntKind.i64.wrap (v2 + (1 : Int))) (v3) (v4))) (none)))) (none)) (some ([(false, [RL.d (D.bool true)])])) := by kernel_rfl
theorem F100.run (k : Nat) (a0_0 : Ovi.Rows) (a0_1 : Ovi.Rows) : C (k + 1) 100 [AV.agg [AV.d (D.list 3 a0_0), AV.d (D.list 2 a0_1)]] = bindR ((C k) 172 [AV.d (D.list 3 a0_0)]) fun r4 => bindB (resB 1 false 1 r4 0 0) fun b5 => ite' (!b5) (some ([(false, [RL.d (D.bool false)])])) (ite' (decide ((↑(List.length a0_1) : Int) > (30 : Int))) (some ([(false, [RL.d (D.bool false)])])) (F100.L4 k (C k)  (k) (a0_1) ((↑(List.length a0_1) : Int)) ((0 : Int)) (a0_0) (a0_1))) := (show C (k + 1) 100 [AV.agg [AV.d (D.list 3 a0_0), AV.d (D.list 2 a0_1)]] = evFnK P hs (C k) 100 k Tryz.f100 [AV.agg [AV.d (D.list 3 a0_0), AV.d (D.list 2 a0_1)]] by kernel_rfl).trans (by kernel_rfl)
theorem F101.run (k : Nat) (a0_0 : List UInt8) (a0_1 : Int) (a0_2 : Bool) (a1_0 : List UInt8) (a1_1 : Int) (a1_2 : Bool) : C (k + 1) 101 [AV.agg [AV.d (D.str a0_0), AV.d (D.int IntKind.i64 a0_1), AV.d (D.bool a0_2)], AV.agg [AV.d (D.str a1_0), AV.d (D.int IntKind.i64 a1_1), AV.d (D.bool a1_2)]] = ite' (!a0_0 == a1_0) (some ([(false, [RL.d (D.bool false)])])) (ite' (a0_1 != a1_1) (some ([(false, [RL.d (D.bool false)])])) (ite' (!a0_2 == a1_2) (some ([(false, [RL.d (D.bool false)])])) (some ([(false, [RL.d (D.bool true)])])))) := (show C (k + 1) 101 [AV.agg [AV.d (D.str a0_0), AV.d (D.int IntKind.i64 a0_1), AV.d (D.bool a0_2)], AV.agg [AV.d (D.str a1_0), AV.d (D.int IntKind.i64 a1_1), AV.d (D.bool a1_2)]] = evFnK P hs (C k) 101 k Tryz.f101 [AV.agg [AV.d (D.str a0_0), AV.d (D.int IntKind.i64 a0_1), AV.d (D.bool a0_2)], AV.agg [AV.d (D.str a1_0), AV.d (D.int IntKind.i64 a1_1), AV.d (D.bool a1_2)]] by kernel_rfl).trans (by kernel_rfl)
noncomputable def F102.L4 (k : Nat) (call : CallF)  (n : Nat) (v0 : Ovi.Rows) (v1 : Ovi.Rows) (v2 : Int) : Option Res := loopFn P hs call 102 k Tryz.f102 [1, 1, 0, 1, 0] [] n [(0, AV.d (D.list 2 v0)), (1, AV.d (D.list 2 v1)), (5, AV.d (D.int IntKind.i64 v2))] []
theorem F102.L4.succ (k : Nat) (call : CallF)  (n : Nat) (v0 : Ovi.Rows) (v1 : Ovi.Rows) (v2 : Int) : F102.L4 k call  (n + 1) v0 v1 v2 = ite' (decide (v2 < (↑(List.length v0) : Int))) (ite' (inR v2 (List.length v0)) (bindI (cellI IntKind.i64 v0 v2.toNat 0) fun n8 => bindL (cellL 1 v0 v2.toNat 1) fun l9 => ite' (inR v2 (List.length v1)) (bindI (cellI IntKind.i64 v1 v2.toNat 0) fun n10 => bindL (cellL 1 v1 v2.toNat 1) fun l11 => bindR (call 175 [AV.agg [AV.d (D.int IntKind.i64 n8), AV.d (D.list 1 l9)], AV.agg [AV.d (D.int IntKind.i64 n10), AV.d (D.list 1 l11)]]) fun r12 => bindB (resB 1 false 1 r12 0 0) fun b13 => ite' (!b13) (some ([(false, [RL.d (D.bool false)])])) (F102.L4 k call  (n) (v0) (v1) (IntKind.i64.wrap (v2 + (1 : Int))))) (none)) (none)) (some ([(false, [RL.d (D.bool true)])])) := by kernel_rfl
theorem F102.run (k : Nat) (a0 : Ovi.Rows) (a1 : Ovi.Rows) : C (k + 1) 102 [AV.d (D.list 2 a0), AV.d (D.list 2 a1)] = ite' ((↑(List.length a0) : Int) != (↑(List.length a1) : Int)) (some ([(false, [RL.d (D.bool false)])])) (F102.L4 k (C k)  (k) (a0) (a1) ((0 : Int))) := (show C (k + 1) 102 [AV.d (D.list 2 a0), AV.d (D.list 2 a1)] = evFnK P hs (C k) 102 k Tryz.f102 [AV.d (D.list 2 a0), AV.d (D.list 2 a1)] by kernel_rfl).trans (by kernel_rfl)
noncomputable def F103.L4 (k : Nat) (call : CallF)  (n : Nat) (v0 : Int) (v1 : List UInt8) : Option Res := loopFn P hs call 103 k Tryz.f103 [1, 1, 1, 0, 0] [] n [(0, AV.d (D.int IntKind.i64 v0)), (3, AV.d (D.str v1))] []
theorem F103.L4.succ (k : Nat) (call : CallF)  (n : Nat) (v0 : Int) (v1 : List UInt8) : F103.L4 k call  (n + 1) v0 v1 = ite' (decide (v0 > (0 : Int))) (bindS (bytesD [[D.int IntKind.u8 (IntKind.u8.wrap (IntKind.i64.wrap ((48 : Int) + v0.tmod (10 : Int))))]]) fun s6 => ite' (fits (s6.length + v1.length)) (F103.L4 k call  (n) (IntKind.i64.wrap (v0.tdiv (10 : Int))) (s6 ++ v1)) (none)) (ite' (fits (1 + v1.length)) (some ([(false, [RL.d (D.str ((109 : UInt8) :: v1))])])) (none)) := by kernel_rfl
theorem F103.eq (k : Nat) (call : CallF) (a0 : Int) : evFnK P hs call (103 : FuncId) k Tryz.f103 [AV.d (D.int IntKind.i64 a0)] = ite' (decide (a0 ≤ (0 : Int))) (some ([(false, [RL.d (D.str [(109 : UInt8), (48 : UInt8)])])])) (F103.L4 k call  (k) (a0) ([])) := by kernel_rfl
theorem F103.run (k : Nat) (a0 : Int) : C (k + 1) 103 [AV.d (D.int IntKind.i64 a0)] = ite' (decide (a0 ≤ (0 : Int))) (some ([(false, [RL.d (D.str [(109 : UInt8), (48 : UInt8)])])])) (F103.L4 k (C k)  (k) (a0) ([])) := (show C (k + 1) 103 [AV.d (D.int IntKind.i64 a0)] = evFnK P hs (C k) 103 k Tryz.f103 [AV.d (D.int IntKind.i64 a0)] by kernel_rfl).trans (F103.eq k (C k) a0)
noncomputable def F105.L6 (k : Nat) (call : CallF)  (n : Nat) (v0 : Int) (v1 : List (List D)) (v2 : Ovi.Rows) : Option Res := loopFn P hs call 105 k Tryz.f105 [1, 1, 1, 1, 0, 1, 0] [] n [(5, AV.own 100005 0), (6, AV.own 100006 0), (7, AV.d (D.int IntKind.i64 v0))] [(100005, Blk.arr 39 1 0 v1 (0, 0, 0)), (100006, Blk.arr 39 1 0 v2 (0, 0, 0))]
noncomputable def F105.L10 (k : Nat) (call : CallF) (k6 : Nat) (n : Nat) (v0 : Int) (v1 : Bool) (v2 : Int) (v3 : List (List D)) (v4 : Ovi.Rows) : Option Res := loopFn P hs call 105 k Tryz.f105 [1, 1, 1, 1, 0, 1, 0, 0, 1, 0, 0, 1, 0, 1, 0] [k6] n [(5, AV.own 100005 0), (6, AV.own 100006 0), (7, AV.d (D.int IntKind.i64 v0)), (8, AV.d (D.bool v1)), (9, AV.d (D.int IntKind.i64 v2))] [(100005, Blk.arr 39 1 0 v3 (0, 0, 0)), (100006, Blk.arr 39 1 0 v4 (0, 0, 0))]
theorem F105.L6.succ (k : Nat) (call : CallF)  (n : Nat) (v0 : Int) (v1 : List (List D)) (v2 : Ovi.Rows) : F105.L6 k call  (n + 1) v0 v1 v2 = ite' (decide (v0 < (↑(List.length v2) : Int))) (F105.L10 k call n (k) (v0) (false) ((0 : Int)) (v1) (v2)) (some ([(false, [RL.row 39 1 v1])])) := by kernel_rfl
theorem F105.L10.succ (k : Nat) (call : CallF) (k6 : Nat) (n : Nat) (v0 : Int) (v1 : Bool) (v2 : Int) (v3 : List (List D)) (v4 : Ovi.Rows) : F105.L10 k call k6 (n + 1) v0 v1 v2 v3 v4 = ite' (decide (v2 < (↑v3.length : Int))) (ite' (v1) (F105.L10 k call k6 (n) (v0) (true) (IntKind.i64.wrap (v2 + (1 : Int))) (v3) (v4)) (ite' (inR v2 v3.length) (bindL (cellL 1 v3 v2.toNat 0) fun l12 => ite' (inR v0 (List.length v4)) (bindL (cellL 1 v4 v0.toNat 0) fun l13 => bindR (call 179 [AV.d (D.list 1 l12), AV.d (D.list 1 l13)]) fun r14 => bindI (resI IntKind.i64 1 false 1 r14 0 0) fun n15 => F105.L10 k call k6 (n) (v0) (n15 == (0 : Int)) (IntKind.i64.wrap (v2 + (1 : Int))) (v3) (v4)) (none)) (none))) (ite' (!v1) (ite' (inR v0 (List.length v4)) (bindL (cellL 1 v4 v0.toNat 0) fun l12 => ite' (fits (v3.length + [[D.list 1 l12]].length)) (F105.L6 k call  (k6) (IntKind.i64.wrap (v0 + (1 : Int))) (v3 ++ [[D.list 1 l12]]) (v4)) (none)) (none)) (F105.L6 k call  (k6) (IntKind.i64.wrap (v0 + (1 : Int))) (v3) (v4))) := by kernel_rfl
theorem F105.run (k : Nat) (a0_0 : Ovi.Rows) (a0_1 : Ovi.Rows) (a1 : Ovi.Rows) : C (k + 1) 105 [AV.agg [AV.d (D.list 3 a0_0), AV.d (D.list 2 a0_1)], AV.d (D.list 2 a1)] = bindR ((C k) 176 [AV.agg [AV.d (D.list 3 a0_0), AV.d (D.list 2 a0_1)], AV.d (D.list 2 a1)]) fun r5 => bindB (resB 1 false 1 r5 0 0) fun b6 => ite' (!b6) (some ([(false, [RL.nil])])) (bindR ((C k) 178 []) fun r7 => bindL (resO 3 1 1 false 1 r7 0 0) fun l8 => bindR ((C k) 177 [AV.agg [AV.d (D.list 3 a0_0), AV.d (D.list 2 a0_1)], AV.d (D.list 2 a1), AV.d (D.int IntKind.i64 (0 : Int)), AV.d (D.list 1 l8)]) fun r9 => bindL (resO 39 1 1 false 1 r9 0 0) fun l10 => F105.L6 k (C k)  (k) ((0 : Int)) ([]) (l10)) := (show C (k + 1) 105 [AV.agg [AV.d (D.list 3 a0_0), AV.d (D.list 2 a0_1)], AV.d (D.list 2 a1)] = evFnK P hs (C k) 105 k Tryz.f105 [AV.agg [AV.d (D.list 3 a0_0), AV.d (D.list 2 a0_1)], AV.d (D.list 2 a1)] by kernel_rfl).trans (by kernel_rfl)
noncomputable def F106.L2 (k : Nat) (call : CallF)  (n : Nat) (v0 : Ovi.Rows) (v1 : Ovi.Rows) (v2 : Int) : Option Res := loopFn P hs call 106 k Tryz.f106 [1, 1, 0, 0] [] n [(0, AV.d (D.list 1 v0)), (1, AV.d (D.list 1 v1)), (5, AV.d (D.int IntKind.i64 v2))] []
theorem F106.L2.succ (k : Nat) (call : CallF)  (n : Nat) (v0 : Ovi.Rows) (v1 : Ovi.Rows) (v2 : Int) : F106.L2 k call  (n + 1) v0 v1 v2 = ite' (decide (v2 < (↑(List.length v0) : Int))) (ite' (inR v2 (List.length v0)) (bindL (cellL 1 v0 v2.toNat 0) fun l8 => bindR (call 179 [AV.d (D.list 1 l8), AV.d (D.list 1 v1)]) fun r9 => bindI (resI IntKind.i64 1 false 1 r9 0 0) fun n10 => ite' (decide (n10 < (0 : Int))) (F106.L2 k call  (n) (v0) (v1) (IntKind.i64.wrap (v2 + (1 : Int)))) (ite' (decide (v2 < (↑(List.length v0) : Int))) (ite' (inR v2 (List.length v0)) (bindL (cellL 1 v0 v2.toNat 0) fun l11 => bindR (call 179 [AV.d (D.list 1 l11), AV.d (D.list 1 v1)]) fun r12 => bindI (resI IntKind.i64 1 false 1 r12 0 0) fun n13 => ite' (n13 == (0 : Int)) (some ([(false, [RL.d (D.list 1 v0)])])) (ite' (inS v2 (↑(List.length v0) : Int) (List.length v0)) (ite' (fits ([[D.list 1 v1]].length + (List.drop v2.toNat v0).length)) (ite' (inS (0 : Int) v2 (List.length v0)) (ite' (fits (List.take v2.toNat v0).length) (ite' (fits ((List.take v2.toNat v0).length + List.length ([[D.list 1 v1]] ++ List.drop v2.toNat v0))) (some ([(false, [RL.row 39 1 (List.take v2.toNat v0 ++ ([[D.list 1 v1]] ++ List.drop v2.toNat v0))])])) (none)) (none)) (none)) (none)) (none))) (none)) (ite' (inS v2 (↑(List.length v0) : Int) (List.length v0)) (ite' (fits ([[D.list 1 v1]].length + (List.drop v2.toNat v0).length)) (ite' (inS (0 : Int) v2 (List.length v0)) (ite' (fits (List.take v2.toNat v0).length) (ite' (fits ((List.take v2.toNat v0).length + List.length ([[D.list 1 v1]] ++ List.drop v2.toNat v0))) (some ([(false, [RL.row 39 1 (List.take v2.toNat v0 ++ ([[D.list 1 v1]] ++ List.drop v2.toNat v0))])])) (none)) (none)) (none)) (none)) (none)))) (none)) (ite' (decide (v2 < (↑(List.length v0) : Int))) (ite' (inR v2 (List.length v0)) (bindL (cellL 1 v0 v2.toNat 0) fun l8 => bindR (call 179 [AV.d (D.list 1 l8), AV.d (D.list 1 v1)]) fun r9 => bindI (resI IntKind.i64 1 false 1 r9 0 0) fun n10 => ite' (n10 == (0 : Int)) (some ([(false, [RL.d (D.list 1 v0)])])) (ite' (inS v2 (↑(List.length v0) : Int) (List.length v0)) (ite' (fits ([[D.list 1 v1]].length + (List.drop v2.toNat v0).length)) (ite' (inS (0 : Int) v2 (List.length v0)) (ite' (fits (List.take v2.toNat v0).length) (ite' (fits ((List.take v2.toNat v0).length + List.length ([[D.list 1 v1]] ++ List.drop v2.toNat v0))) (some ([(false, [RL.row 39 1 (List.take v2.toNat v0 ++ ([[D.list 1 v1]] ++ List.drop v2.toNat v0))])])) (none)) (none)) (none)) (none)) (none))) (none)) (ite' (inS v2 (↑(List.length v0) : Int) (List.length v0)) (ite' (fits ([[D.list 1 v1]].length + (List.drop v2.toNat v0).length)) (ite' (inS (0 : Int) v2 (List.length v0)) (ite' (fits (List.take v2.toNat v0).length) (ite' (fits ((List.take v2.toNat v0).length + List.length ([[D.list 1 v1]] ++ List.drop v2.toNat v0))) (some ([(false, [RL.row 39 1 (List.take v2.toNat v0 ++ ([[D.list 1 v1]] ++ List.drop v2.toNat v0))])])) (none)) (none)) (none)) (none)) (none))) := by kernel_rfl
theorem F106.run (k : Nat) (a0 : Ovi.Rows) (a1 : Ovi.Rows) : C (k + 1) 106 [AV.d (D.list 1 a0), AV.d (D.list 1 a1)] = F106.L2 k (C k)  (k) (a0) (a1) ((0 : Int)) := (show C (k + 1) 106 [AV.d (D.list 1 a0), AV.d (D.list 1 a1)] = evFnK P hs (C k) 106 k Tryz.f106 [AV.d (D.list 1 a0), AV.d (D.list 1 a1)] by kernel_rfl).trans (by kernel_rfl)
noncomputable def F107.L3 (k : Nat) (call : CallF)  (n : Nat) (v0 : FuncId) (v1 : Ovi.Rows) (v2 : Int) (v3 : Int) (v4 : Ovi.Rows) (v5 : Ovi.Rows) (v6 : List (List D)) (v7 : Ovi.Rows) : Option Res := loopFn P hs call 107 k Tryz.f107 [1, 1, 0, 1, 0] [] n [(2, AV.d (D.fn v0 v1)), (4, AV.var 256 0), (7, AV.own 100007 0), (17, AV.own 100017 0), (18, AV.d (D.int IntKind.i64 v2)), (19, AV.d (D.int IntKind.i64 v3))] [(256, Blk.var [AV.d (D.list 1 v4), AV.d (D.list 2 v5)]), (100007, Blk.arr 39 1 0 v6 (1, 0, 0)), (100017, Blk.arr 39 1 0 v7 (0, 0, 0))]
noncomputable def F107.L8 (k : Nat) (call : CallF) (k3 : Nat) (n : Nat) (v0 : FuncId) (v1 : Ovi.Rows) (v2 : Ovi.Rows) (v3 : Int) (v4 : Int) (v5 : Ovi.Rows) (v6 : Int) (v7 : Int) (v8 : Ovi.Rows) (v9 : Ovi.Rows) (v10 : List (List D)) (v11 : List (List D)) (v12 : Ovi.Rows) : Option Res := loopFn P hs call 107 k Tryz.f107 [1, 1, 0, 1, 0, 0, 1, 1, 0, 0, 1, 1, 1, 0, 1, 0] [k3] n [(2, AV.d (D.fn v0 v1)), (4, AV.var 256 0), (7, AV.own 100007 0), (9, AV.d (D.list 1 v2)), (10, AV.own 100010 0), (17, AV.own 100017 0), (18, AV.d (D.int IntKind.i64 v3)), (19, AV.d (D.int IntKind.i64 v4)), (29, AV.d (D.list 1 v5)), (30, AV.d (D.int IntKind.i64 v6)), (31, AV.d (D.int IntKind.i64 v7))] [(256, Blk.var [AV.d (D.list 1 v8), AV.d (D.list 2 v9)]), (100007, Blk.arr 39 1 0 v10 (1, 0, 0)), (100010, Blk.arr 3 1 0 v11 (0, 0, 0)), (100017, Blk.arr 39 1 0 v12 (0, 0, 0))]
theorem F107.L3.succ (k : Nat) (call : CallF)  (n : Nat) (v0 : FuncId) (v1 : Ovi.Rows) (v2 : Int) (v3 : Int) (v4 : Ovi.Rows) (v5 : Ovi.Rows) (v6 : List (List D)) (v7 : Ovi.Rows) : F107.L3 k call  (n + 1) v0 v1 v2 v3 v4 v5 v6 v7 = ite' (decide (v3 < v2)) (ite' (inR v3 (List.length v7)) (bindL (cellL 1 v7 v3.toNat 0) fun l17 => bindR (call v0 (AV.d (D.list 1 l17) :: [].append (List.map (fun (c : List D) => AV.cap c 0) v1))) fun r18 => bindB (resB 1 false 1 r18 0 0) fun b19 => ite' (!b19) (F107.L3 k call  (n) (v0) (v1) (v2) (IntKind.i64.wrap (v3 + (1 : Int))) (v4) (v5) (v6) (v7)) (F107.L8 k call n (k) (v0) (v1) (l17) (v2) (v3) (v4) ((↑(List.length v4) : Int)) ((0 : Int)) (v4) (v5) (v6) ([]) (v7))) (none)) (bindR (call 181 [AV.var 0 0, AV.d (D.int IntKind.i64 (↑39 : Int)), AV.d (D.list 1 v6)]) fun r17 => bindL (resF 39 1 0 2 false 1 r17 0 0) fun l18 => some ([(false, [RL.frow 39 1 1 l18])])) := by kernel_rfl
theorem F107.L8.succ (k : Nat) (call : CallF) (k3 : Nat) (n : Nat) (v0 : FuncId) (v1 : Ovi.Rows) (v2 : Ovi.Rows) (v3 : Int) (v4 : Int) (v5 : Ovi.Rows) (v6 : Int) (v7 : Int) (v8 : Ovi.Rows) (v9 : Ovi.Rows) (v10 : List (List D)) (v11 : List (List D)) (v12 : Ovi.Rows) : F107.L8 k call k3 (n + 1) v0 v1 v2 v3 v4 v5 v6 v7 v8 v9 v10 v11 v12 = ite' (decide (v7 < v6)) (ite' (inR v7 (List.length v5)) (bindI (cellI IntKind.i64 v5 v7.toNat 0) fun n23 => ite' (inR n23 (List.length v2)) (bindI (cellI IntKind.i64 v2 n23.toNat 0) fun n24 => ite' (fits (v11.length + [[D.int IntKind.i64 n24]].length)) (F107.L8 k call k3 (n) (v0) (v1) (v2) (v3) (v4) (v5) (v6) (IntKind.i64.wrap (v7 + (1 : Int))) (v8) (v9) (v10) (v11 ++ [[D.int IntKind.i64 n24]]) (v12)) (none)) (none)) (none)) (ite' (fits (v10.length + [[D.list 1 v11]].length)) (F107.L3 k call  (k3) (v0) (v1) (v3) (IntKind.i64.wrap (v4 + (1 : Int))) (v8) (v9) (v10 ++ [[D.list 1 v11]]) (v12)) (none)) := by kernel_rfl
theorem F107.run (k : Nat) (a0_0 : Ovi.Rows) (a0_1 : Ovi.Rows) (a1_0 : Ovi.Rows) (a1_1 : Ovi.Rows) (a2 : FuncId) (a2c : Ovi.Rows) : C (k + 1) 107 [AV.agg [AV.d (D.list 3 a0_0), AV.d (D.list 2 a0_1)], AV.agg [AV.d (D.list 1 a1_0), AV.d (D.list 2 a1_1)], AV.d (D.fn a2 a2c)] = bindR ((C k) 180 [AV.agg [AV.d (D.list 3 a0_0), AV.d (D.list 2 a0_1)], AV.d (D.list 2 a1_1)]) fun r8 => bindL (resO 39 1 1 false 1 r8 0 0) fun l9 => F107.L3 k (C k)  (k) (a2) (a2c) ((↑(List.length l9) : Int)) ((0 : Int)) (a1_0) (a1_1) ([]) (l9) := (show C (k + 1) 107 [AV.agg [AV.d (D.list 3 a0_0), AV.d (D.list 2 a0_1)], AV.agg [AV.d (D.list 1 a1_0), AV.d (D.list 2 a1_1)], AV.d (D.fn a2 a2c)] = evFnK P hs (C k) 107 k Tryz.f107 [AV.agg [AV.d (D.list 3 a0_0), AV.d (D.list 2 a0_1)], AV.agg [AV.d (D.list 1 a1_0), AV.d (D.list 2 a1_1)], AV.d (D.fn a2 a2c)] by kernel_rfl).trans (by kernel_rfl)
theorem F108.run (k : Nat) (a0 : Ovi.Rows) : C (k + 1) 108 [AV.d (D.list 1 a0)] = some ([(false, [RL.d (D.bool true)])]) := (show C (k + 1) 108 [AV.d (D.list 1 a0)] = evFnK P hs (C k) 108 k Tryz.f108 [AV.d (D.list 1 a0)] by kernel_rfl).trans (by kernel_rfl)
noncomputable def F109.L2 (k : Nat) (call : CallF)  (n : Nat) (v0 : Ovi.Rows) (v1 : Int) (v2 : Int) : Option Res := loopFn P hs call 109 k Tryz.f109 [1, 0, 1, 0] [] n [(0, AV.d (D.list 1 v0)), (1, AV.d (D.int IntKind.i64 v1)), (5, AV.d (D.int IntKind.i64 v2))] []
theorem F109.L2.succ (k : Nat) (call : CallF)  (n : Nat) (v0 : Ovi.Rows) (v1 : Int) (v2 : Int) : F109.L2 k call  (n + 1) v0 v1 v2 = ite' (decide (v2 < (↑(List.length v0) : Int))) (ite' (inR v2 (List.length v0)) (bindI (cellI IntKind.i64 v0 v2.toNat 0) fun n8 => ite' (n8 != v1) (some ([(false, [RL.d (D.int IntKind.i64 (-1 : Int))])])) (F109.L2 k call  (n) (v0) (IntKind.i64.wrap (v1 + (1 : Int))) (IntKind.i64.wrap (v2 + (1 : Int))))) (none)) (some ([(false, [RL.d (D.int IntKind.i64 v1)])])) := by kernel_rfl
theorem F109.run (k : Nat) (a0 : Ovi.Rows) (a1 : Int) : C (k + 1) 109 [AV.d (D.list 1 a0), AV.d (D.int IntKind.i64 a1)] = F109.L2 k (C k)  (k) (a0) (a1) ((0 : Int)) := (show C (k + 1) 109 [AV.d (D.list 1 a0), AV.d (D.int IntKind.i64 a1)] = evFnK P hs (C k) 109 k Tryz.f109 [AV.d (D.list 1 a0), AV.d (D.int IntKind.i64 a1)] by kernel_rfl).trans (by kernel_rfl)
theorem F111.run (k : Nat) (a0 : Ovi.Rows) (a1_0 : Ovi.Rows) (a1_1 : Ovi.Rows) (a1_2 : Int) (a1_3 : Int) : C (k + 1) 111 [AV.d (D.list 3 a0), AV.agg [AV.d (D.list 1 a1_0), AV.d (D.list 2 a1_1), AV.d (D.int IntKind.i64 a1_2), AV.d (D.int IntKind.i64 a1_3)]] = bindR ((C k) 155 [AV.d (D.list 2 a1_1)]) fun r7 => bindL (resL 1 1 false 1 r7 0 0) fun l8 => bindR ((C k) 89 [AV.d (D.list 3 a0), AV.agg [AV.d (D.list 1 a1_0), AV.d (D.list 2 a1_1)]]) fun r9 => bindB (resB 1 false 1 r9 0 0) fun b10 => ite' (b10) (bindR ((C k) 81 [AV.d (D.list 1 l8), AV.d (D.int IntKind.i64 a1_2)]) fun r11 => bindB (resB 1 false 1 r11 0 0) fun b12 => ite' (b12) (bindR ((C k) 81 [AV.d (D.list 1 l8), AV.d (D.int IntKind.i64 a1_3)]) fun r13 => bindB (resB 1 false 1 r13 0 0) fun b14 => ite' (b14) (some ([(false, [RL.d (D.bool (a1_2 != a1_3))])])) (some ([(false, [RL.d (D.bool false)])]))) (some ([(false, [RL.d (D.bool false)])]))) (some ([(false, [RL.d (D.bool false)])])) := (show C (k + 1) 111 [AV.d (D.list 3 a0), AV.agg [AV.d (D.list 1 a1_0), AV.d (D.list 2 a1_1), AV.d (D.int IntKind.i64 a1_2), AV.d (D.int IntKind.i64 a1_3)]] = evFnK P hs (C k) 111 k Tryz.f111 [AV.d (D.list 3 a0), AV.agg [AV.d (D.list 1 a1_0), AV.d (D.list 2 a1_1), AV.d (D.int IntKind.i64 a1_2), AV.d (D.int IntKind.i64 a1_3)]] by kernel_rfl).trans (by kernel_rfl)
theorem F112.run (k : Nat) (a0 : Ovi.Rows) (a1_0 : Ovi.Rows) (a1_1 : Ovi.Rows) (a1_2 : Int) (a1_3 : Int) : C (k + 1) 112 [AV.d (D.list 3 a0), AV.agg [AV.d (D.list 1 a1_0), AV.d (D.list 2 a1_1), AV.d (D.int IntKind.i64 a1_2), AV.d (D.int IntKind.i64 a1_3)]] = bindR ((C k) 161 [AV.d (D.list 2 a1_1)]) fun r7 => bindL (resO 3 1 1 false 1 r7 0 0) fun l8 => bindR ((C k) 95 [AV.d (D.list 3 a0), AV.agg [AV.d (D.list 1 a1_0), AV.d (D.list 2 a1_1)]]) fun r9 => bindB (resB 1 false 1 r9 0 0) fun b10 => ite' (b10) (ite' (a1_2 != a1_3) (bindR ((C k) 83 [AV.d (D.list 1 l8), AV.d (D.int IntKind.i64 a1_2)]) fun r11 => bindB (resB 1 false 1 r11 0 0) fun b12 => ite' (b12) (bindR ((C k) 83 [AV.d (D.list 1 l8), AV.d (D.int IntKind.i64 a1_3)]) fun r13 => bindB (resB 1 false 1 r13 0 0) fun b14 => some ([(false, [RL.d (D.bool b14)])])) (some ([(false, [RL.d (D.bool false)])]))) (some ([(false, [RL.d (D.bool false)])]))) (some ([(false, [RL.d (D.bool false)])])) := (show C (k + 1) 112 [AV.d (D.list 3 a0), AV.agg [AV.d (D.list 1 a1_0), AV.d (D.list 2 a1_1), AV.d (D.int IntKind.i64 a1_2), AV.d (D.int IntKind.i64 a1_3)]] = evFnK P hs (C k) 112 k Tryz.f112 [AV.d (D.list 3 a0), AV.agg [AV.d (D.list 1 a1_0), AV.d (D.list 2 a1_1), AV.d (D.int IntKind.i64 a1_2), AV.d (D.int IntKind.i64 a1_3)]] by kernel_rfl).trans (by kernel_rfl)
theorem F113.run (k : Nat) (a0 : Ovi.Rows) (c0_0 : Ovi.Rows) (c0_1 : Ovi.Rows) (c0_2 : Int) (c0_3 : Int) : C (k + 1) 113 [AV.d (D.list 1 a0), AV.cap [D.list 1 c0_0, D.list 2 c0_1, D.int IntKind.i64 c0_2, D.int IntKind.i64 c0_3] 0] = ite' (inR c0_2 (List.length a0)) (bindI (cellI IntKind.i64 a0 c0_2.toNat 0) fun n7 => ite' (inR c0_3 (List.length a0)) (bindI (cellI IntKind.i64 a0 c0_3.toNat 0) fun n8 => some ([(false, [RL.d (D.bool (n7 != n8))])])) (none)) (none) := (show C (k + 1) 113 [AV.d (D.list 1 a0), AV.cap [D.list 1 c0_0, D.list 2 c0_1, D.int IntKind.i64 c0_2, D.int IntKind.i64 c0_3] 0] = evFnK P hs (C k) 113 k Tryz.f113 [AV.d (D.list 1 a0), AV.cap [D.list 1 c0_0, D.list 2 c0_1, D.int IntKind.i64 c0_2, D.int IntKind.i64 c0_3] 0] by kernel_rfl).trans (by kernel_rfl)
theorem F142.run (k : Nat) (a0_0 : Int) (a0_1 : Ovi.Rows) (a1 : Int) : C (k + 1) 142 [AV.agg [AV.d (D.int IntKind.i64 a0_0), AV.d (D.list 1 a0_1)], AV.d (D.int IntKind.i64 a1)] = bindR ((C k) 87 [AV.d (D.list 1 a0_1), AV.d (D.int IntKind.i64 a1)]) fun r5 => bindI (resI IntKind.i64 1 false 1 r5 0 0) fun n6 => ite' (decide (n6 < (0 : Int))) (some ([(false, [RL.d (D.int IntKind.i64 (-1 : Int))])])) (some ([(false, [RL.d (D.int IntKind.i64 n6)])])) := (show C (k + 1) 142 [AV.agg [AV.d (D.int IntKind.i64 a0_0), AV.d (D.list 1 a0_1)], AV.d (D.int IntKind.i64 a1)] = evFnK P hs (C k) 142 k Tryz.f142 [AV.agg [AV.d (D.int IntKind.i64 a0_0), AV.d (D.list 1 a0_1)], AV.d (D.int IntKind.i64 a1)] by kernel_rfl).trans (by kernel_rfl)
noncomputable def F143.L4 (k : Nat) (call : CallF)  (n : Nat) (v0 : Int) (v1 : Int) (v2 : Ovi.Rows) : Option Res := loopFn P hs call 143 k Tryz.f143 [1, 1, 0, 1, 0] [] n [(3, AV.var 192 0), (5, AV.d (D.int IntKind.i64 v0))] [(192, Blk.var [AV.d (D.int IntKind.i64 v1), AV.d (D.list 1 v2)])]
theorem F143.L4.succ (k : Nat) (call : CallF)  (n : Nat) (v0 : Int) (v1 : Int) (v2 : Ovi.Rows) : F143.L4 k call  (n + 1) v0 v1 v2 = ite' (decide (v0 < (↑(List.length v2) : Int))) (ite' (inR v0 (List.length v2)) (bindI (cellI IntKind.i64 v2 v0.toNat 0) fun n9 => bindR (call 157 [AV.d (D.int IntKind.i64 n9)]) fun r10 => bindB (resB 1 false 1 r10 0 0) fun b11 => ite' (!b11) (some ([(false, [RL.d (D.bool false)])])) (F143.L4 k call  (n) (IntKind.i64.wrap (v0 + (1 : Int))) (v1) (v2))) (none)) (some ([(false, [RL.d (D.bool true)])])) := by kernel_rfl
theorem F143.run (k : Nat) (a0 : Ovi.Rows) (a1_0 : Int) (a1_1 : Ovi.Rows) : C (k + 1) 143 [AV.d (D.list 3 a0), AV.agg [AV.d (D.int IntKind.i64 a1_0), AV.d (D.list 1 a1_1)]] = bindR ((C k) 146 [AV.d (D.list 3 a0)]) fun r5 => bindB (resB 1 false 1 r5 0 0) fun b6 => ite' (!b6) (some ([(false, [RL.d (D.bool false)])])) (bindR ((C k) 68 [AV.d (D.int IntKind.i64 a1_0), AV.d (D.int IntKind.i64 (0 : Int)), AV.d (D.int IntKind.i64 (IntKind.i64.wrap ((↑(List.length a0) : Int) - (1 : Int))))]) fun r7 => bindB (resB 1 false 1 r7 0 0) fun b8 => ite' (!b8) (some ([(false, [RL.d (D.bool false)])])) (ite' (inR a1_0 (List.length a0)) (bindI (cellI IntKind.i64 a0 a1_0.toNat 1) fun n9 => ite' ((↑(List.length a1_1) : Int) != n9) (some ([(false, [RL.d (D.bool false)])])) (F143.L4 k (C k)  (k) ((0 : Int)) (a1_0) (a1_1))) (none))) := (show C (k + 1) 143 [AV.d (D.list 3 a0), AV.agg [AV.d (D.int IntKind.i64 a1_0), AV.d (D.list 1 a1_1)]] = evFnK P hs (C k) 143 k Tryz.f143 [AV.d (D.list 3 a0), AV.agg [AV.d (D.int IntKind.i64 a1_0), AV.d (D.list 1 a1_1)]] by kernel_rfl).trans (by kernel_rfl)
theorem F144.run (k : Nat) (a0_0 : Int) (a0_1 : Ovi.Rows) (a1_0 : Int) (a1_1 : Ovi.Rows) : C (k + 1) 144 [AV.agg [AV.d (D.int IntKind.i64 a0_0), AV.d (D.list 1 a0_1)], AV.agg [AV.d (D.int IntKind.i64 a1_0), AV.d (D.list 1 a1_1)]] = ite' (decide (a0_0 < a1_0)) (some ([(false, [RL.d (D.int IntKind.i64 (-1 : Int))])])) (ite' (decide (a0_0 > a1_0)) (some ([(false, [RL.d (D.int IntKind.i64 (1 : Int))])])) (bindR ((C k) 179 [AV.d (D.list 1 a0_1), AV.d (D.list 1 a1_1)]) fun r6 => bindI (resI IntKind.i64 1 false 1 r6 0 0) fun n7 => some ([(false, [RL.d (D.int IntKind.i64 n7)])]))) := (show C (k + 1) 144 [AV.agg [AV.d (D.int IntKind.i64 a0_0), AV.d (D.list 1 a0_1)], AV.agg [AV.d (D.int IntKind.i64 a1_0), AV.d (D.list 1 a1_1)]] = evFnK P hs (C k) 144 k Tryz.f144 [AV.agg [AV.d (D.int IntKind.i64 a0_0), AV.d (D.list 1 a0_1)], AV.agg [AV.d (D.int IntKind.i64 a1_0), AV.d (D.list 1 a1_1)]] by kernel_rfl).trans (by kernel_rfl)
noncomputable def F145.L3 (k : Nat) (call : CallF)  (n : Nat) (v0 : List (List D)) (v1 : Int) (v2 : Int) (v3 : Ovi.Rows) : Option Res := loopFn P hs call 145 k Tryz.f145 [1, 1, 0, 1, 0] [] n [(1, AV.var 64 0), (3, AV.d (D.list 1 v0)), (4, AV.d (D.int IntKind.i64 v1))] [(64, Blk.var [AV.d (D.int IntKind.i64 v2), AV.d (D.list 1 v3)])]
theorem F145.L3.succ (k : Nat) (call : CallF)  (n : Nat) (v0 : List (List D)) (v1 : Int) (v2 : Int) (v3 : Ovi.Rows) : F145.L3 k call  (n + 1) v0 v1 v2 v3 = ite' (decide (v1 < (↑(List.length v3) : Int))) (ite' (inR v1 (List.length v3)) (bindI (cellI IntKind.i64 v3 v1.toNat 0) fun n9 => bindR (call 80 [AV.d (D.int IntKind.i64 n9)]) fun r10 => bindI (resI IntKind.i64 2 false 1 r10 0 0) fun n11 => bindB (resB 2 false 1 r10 1 0) fun b12 => ite' (b12) (bindR (call 147 [AV.d (D.list 1 v0), AV.d (D.int IntKind.i64 n11)]) fun r13 => bindL (resL 1 1 false 1 r13 0 0) fun l14 => F145.L3 k call  (n) (l14) (IntKind.i64.wrap (v1 + (1 : Int))) (v2) (v3)) (F145.L3 k call  (n) (v0) (IntKind.i64.wrap (v1 + (1 : Int))) (v2) (v3))) (none)) (some ([(false, [RL.d (D.list 1 v0)])])) := by kernel_rfl
theorem F145.run (k : Nat) (a0_0 : Int) (a0_1 : Ovi.Rows) : C (k + 1) 145 [AV.agg [AV.d (D.int IntKind.i64 a0_0), AV.d (D.list 1 a0_1)]] = F145.L3 k (C k)  (k) ([]) ((0 : Int)) (a0_0) (a0_1) := (show C (k + 1) 145 [AV.agg [AV.d (D.int IntKind.i64 a0_0), AV.d (D.list 1 a0_1)]] = evFnK P hs (C k) 145 k Tryz.f145 [AV.agg [AV.d (D.int IntKind.i64 a0_0), AV.d (D.list 1 a0_1)]] by kernel_rfl).trans (by kernel_rfl)
noncomputable def F146.L2 (k : Nat) (call : CallF)  (n : Nat) (v0 : Ovi.Rows) (v1 : Int) : Option Res := loopFn P hs call 146 k Tryz.f146 [1, 0, 1, 0] [] n [(0, AV.d (D.list 3 v0)), (3, AV.d (D.int IntKind.i64 v1))] []
theorem F146.L2.succ (k : Nat) (call : CallF)  (n : Nat) (v0 : Ovi.Rows) (v1 : Int) : F146.L2 k call  (n + 1) v0 v1 = ite' (decide (v1 < (↑(List.length v0) : Int))) (ite' (inR v1 (List.length v0)) (bindS (cellS v0 v1.toNat 0) fun s6 => bindI (cellI IntKind.i64 v0 v1.toNat 1) fun n7 => bindB (cellB v0 v1.toNat 2) fun b8 => bindR (call 210 [AV.agg [AV.d (D.str s6), AV.d (D.int IntKind.i64 n7), AV.d (D.bool b8)]]) fun r9 => bindB (resB 1 false 1 r9 0 0) fun b10 => ite' (!b10) (some ([(false, [RL.d (D.bool false)])])) (ite' (decide (v1 > (0 : Int))) (ite' (inR (IntKind.i64.wrap (v1 - (1 : Int))) (List.length v0)) (bindS (cellS v0 (IntKind.i64.wrap (v1 - (1 : Int))).toNat 0) fun s11 => ite' (inR v1 (List.length v0)) (bindS (cellS v0 v1.toNat 0) fun s12 => ite' (!sLess s11 s12) (some ([(false, [RL.d (D.bool false)])])) (F146.L2 k call  (n) (v0) (IntKind.i64.wrap (v1 + (1 : Int))))) (none)) (none)) (F146.L2 k call  (n) (v0) (IntKind.i64.wrap (v1 + (1 : Int)))))) (none)) (some ([(false, [RL.d (D.bool (decide ((↑(List.length v0) : Int) ≤ (6 : Int))))])])) := by kernel_rfl
theorem F146.run (k : Nat) (a0 : Ovi.Rows) : C (k + 1) 146 [AV.d (D.list 3 a0)] = F146.L2 k (C k)  (k) (a0) ((0 : Int)) := (show C (k + 1) 146 [AV.d (D.list 3 a0)] = evFnK P hs (C k) 146 k Tryz.f146 [AV.d (D.list 3 a0)] by kernel_rfl).trans (by kernel_rfl)
noncomputable def F147.L2 (k : Nat) (call : CallF)  (n : Nat) (v0 : Ovi.Rows) (v1 : Int) (v2 : Int) : Option Res := loopFn P hs call 147 k Tryz.f147 [1, 1, 0, 0] [] n [(0, AV.d (D.list 1 v0)), (1, AV.d (D.int IntKind.i64 v1)), (5, AV.d (D.int IntKind.i64 v2))] []
theorem F147.L2.succ (k : Nat) (call : CallF)  (n : Nat) (v0 : Ovi.Rows) (v1 : Int) (v2 : Int) : F147.L2 k call  (n + 1) v0 v1 v2 = ite' (decide (v2 < (↑(List.length v0) : Int))) (ite' (inR v2 (List.length v0)) (bindI (cellI IntKind.i64 v0 v2.toNat 0) fun n8 => ite' (decide (n8 < v1)) (F147.L2 k call  (n) (v0) (v1) (IntKind.i64.wrap (v2 + (1 : Int)))) (ite' (decide (v2 < (↑(List.length v0) : Int))) (ite' (inR v2 (List.length v0)) (bindI (cellI IntKind.i64 v0 v2.toNat 0) fun n9 => ite' (n9 == v1) (some ([(false, [RL.d (D.list 1 v0)])])) (ite' (inS v2 (↑(List.length v0) : Int) (List.length v0)) (ite' (fits ([[D.int IntKind.i64 v1]].length + (List.drop v2.toNat v0).length)) (ite' (inS (0 : Int) v2 (List.length v0)) (ite' (fits (List.take v2.toNat v0).length) (ite' (fits ((List.take v2.toNat v0).length + List.length ([[D.int IntKind.i64 v1]] ++ List.drop v2.toNat v0))) (some ([(false, [RL.row 3 1 (List.take v2.toNat v0 ++ ([[D.int IntKind.i64 v1]] ++ List.drop v2.toNat v0))])])) (none)) (none)) (none)) (none)) (none))) (none)) (ite' (inS v2 (↑(List.length v0) : Int) (List.length v0)) (ite' (fits ([[D.int IntKind.i64 v1]].length + (List.drop v2.toNat v0).length)) (ite' (inS (0 : Int) v2 (List.length v0)) (ite' (fits (List.take v2.toNat v0).length) (ite' (fits ((List.take v2.toNat v0).length + List.length ([[D.int IntKind.i64 v1]] ++ List.drop v2.toNat v0))) (some ([(false, [RL.row 3 1 (List.take v2.toNat v0 ++ ([[D.int IntKind.i64 v1]] ++ List.drop v2.toNat v0))])])) (none)) (none)) (none)) (none)) (none)))) (none)) (ite' (decide (v2 < (↑(List.length v0) : Int))) (ite' (inR v2 (List.length v0)) (bindI (cellI IntKind.i64 v0 v2.toNat 0) fun n8 => ite' (n8 == v1) (some ([(false, [RL.d (D.list 1 v0)])])) (ite' (inS v2 (↑(List.length v0) : Int) (List.length v0)) (ite' (fits ([[D.int IntKind.i64 v1]].length + (List.drop v2.toNat v0).length)) (ite' (inS (0 : Int) v2 (List.length v0)) (ite' (fits (List.take v2.toNat v0).length) (ite' (fits ((List.take v2.toNat v0).length + List.length ([[D.int IntKind.i64 v1]] ++ List.drop v2.toNat v0))) (some ([(false, [RL.row 3 1 (List.take v2.toNat v0 ++ ([[D.int IntKind.i64 v1]] ++ List.drop v2.toNat v0))])])) (none)) (none)) (none)) (none)) (none))) (none)) (ite' (inS v2 (↑(List.length v0) : Int) (List.length v0)) (ite' (fits ([[D.int IntKind.i64 v1]].length + (List.drop v2.toNat v0).length)) (ite' (inS (0 : Int) v2 (List.length v0)) (ite' (fits (List.take v2.toNat v0).length) (ite' (fits ((List.take v2.toNat v0).length + List.length ([[D.int IntKind.i64 v1]] ++ List.drop v2.toNat v0))) (some ([(false, [RL.row 3 1 (List.take v2.toNat v0 ++ ([[D.int IntKind.i64 v1]] ++ List.drop v2.toNat v0))])])) (none)) (none)) (none)) (none)) (none))) := by kernel_rfl
theorem F147.run (k : Nat) (a0 : Ovi.Rows) (a1 : Int) : C (k + 1) 147 [AV.d (D.list 1 a0), AV.d (D.int IntKind.i64 a1)] = F147.L2 k (C k)  (k) (a0) (a1) ((0 : Int)) := (show C (k + 1) 147 [AV.d (D.list 1 a0), AV.d (D.int IntKind.i64 a1)] = evFnK P hs (C k) 147 k Tryz.f147 [AV.d (D.list 1 a0), AV.d (D.int IntKind.i64 a1)] by kernel_rfl).trans (by kernel_rfl)
theorem F150.run (k : Nat) (a0_0 : Int) (a0_1 : Ovi.Rows) : C (k + 1) 150 [AV.agg [AV.d (D.int IntKind.i64 a0_0), AV.d (D.list 1 a0_1)]] = bindR ((C k) 57 [AV.d (D.list 1 a0_1)]) fun r4 => bindL (resO 3 1 1 false 1 r4 0 0) fun l5 => some ([(true, [RL.d (D.int IntKind.i64 a0_0), RL.row 3 1 l5])]) := (show C (k + 1) 150 [AV.agg [AV.d (D.int IntKind.i64 a0_0), AV.d (D.list 1 a0_1)]] = evFnK P hs (C k) 150 k Tryz.f150 [AV.agg [AV.d (D.int IntKind.i64 a0_0), AV.d (D.list 1 a0_1)]] by kernel_rfl).trans (by kernel_rfl)
theorem F153.run (k : Nat) (a0_0 : Int) (a0_1 : Ovi.Rows) (a1_0 : Int) (a1_1 : Ovi.Rows) : C (k + 1) 153 [AV.agg [AV.d (D.int IntKind.i64 a0_0), AV.d (D.list 1 a0_1)], AV.agg [AV.d (D.int IntKind.i64 a1_0), AV.d (D.list 1 a1_1)]] = ite' (a0_0 != a1_0) (some ([(false, [RL.d (D.bool false)])])) (bindR ((C k) 60 [AV.d (D.list 1 a0_1), AV.d (D.list 1 a1_1)]) fun r6 => bindB (resB 1 false 1 r6 0 0) fun b7 => ite' (!b7) (some ([(false, [RL.d (D.bool false)])])) (some ([(false, [RL.d (D.bool true)])]))) := (show C (k + 1) 153 [AV.agg [AV.d (D.int IntKind.i64 a0_0), AV.d (D.list 1 a0_1)], AV.agg [AV.d (D.int IntKind.i64 a1_0), AV.d (D.list 1 a1_1)]] = evFnK P hs (C k) 153 k Tryz.f153 [AV.agg [AV.d (D.int IntKind.i64 a0_0), AV.d (D.list 1 a0_1)], AV.agg [AV.d (D.int IntKind.i64 a1_0), AV.d (D.list 1 a1_1)]] by kernel_rfl).trans (by kernel_rfl)
theorem F154.run (k : Nat) (a0_0 : Int) (a0_1 : Ovi.Rows) (a1 : Int) : C (k + 1) 154 [AV.agg [AV.d (D.int IntKind.i64 a0_0), AV.d (D.list 1 a0_1)], AV.d (D.int IntKind.i64 a1)] = bindR ((C k) 87 [AV.d (D.list 1 a0_1), AV.d (D.int IntKind.i64 a1)]) fun r5 => bindI (resI IntKind.i64 1 false 1 r5 0 0) fun n6 => ite' (decide (n6 < (0 : Int))) (some ([(false, [RL.d (D.int IntKind.i64 (-1 : Int))])])) (some ([(false, [RL.d (D.int IntKind.i64 n6)])])) := (show C (k + 1) 154 [AV.agg [AV.d (D.int IntKind.i64 a0_0), AV.d (D.list 1 a0_1)], AV.d (D.int IntKind.i64 a1)] = evFnK P hs (C k) 154 k Tryz.f154 [AV.agg [AV.d (D.int IntKind.i64 a0_0), AV.d (D.list 1 a0_1)], AV.d (D.int IntKind.i64 a1)] by kernel_rfl).trans (by kernel_rfl)
noncomputable def F155.L3 (k : Nat) (call : CallF)  (n : Nat) (v0 : Ovi.Rows) (v1 : List (List D)) (v2 : Int) : Option Res := loopFn P hs call 155 k Tryz.f155 [1, 1, 0, 1, 0] [] n [(0, AV.d (D.list 2 v0)), (3, AV.d (D.list 1 v1)), (4, AV.d (D.int IntKind.i64 v2))] []
noncomputable def F155.L6 (k : Nat) (call : CallF) (k3 : Nat) (n : Nat) (v0 : Ovi.Rows) (v1 : List (List D)) (v2 : Int) (v3 : Int) : Option Res := loopFn P hs call 155 k Tryz.f155 [1, 1, 0, 1, 0, 0, 1, 0, 0, 1, 0] [k3] n [(0, AV.d (D.list 2 v0)), (3, AV.d (D.list 1 v1)), (4, AV.d (D.int IntKind.i64 v2)), (5, AV.d (D.int IntKind.i64 v3))] []
theorem F155.L3.succ (k : Nat) (call : CallF)  (n : Nat) (v0 : Ovi.Rows) (v1 : List (List D)) (v2 : Int) : F155.L3 k call  (n + 1) v0 v1 v2 = ite' (decide (v2 < (↑(List.length v0) : Int))) (F155.L6 k call n (k) (v0) (v1) (v2) ((0 : Int))) (some ([(false, [RL.d (D.list 1 v1)])])) := by kernel_rfl
theorem F155.L6.succ (k : Nat) (call : CallF) (k3 : Nat) (n : Nat) (v0 : Ovi.Rows) (v1 : List (List D)) (v2 : Int) (v3 : Int) : F155.L6 k call k3 (n + 1) v0 v1 v2 v3 = ite' (inR v2 (List.length v0)) (bindL (cellL 1 v0 v2.toNat 1) fun l9 => ite' (decide (v3 < (↑(List.length l9) : Int))) (ite' (inR v2 (List.length v0)) (bindL (cellL 1 v0 v2.toNat 1) fun l10 => ite' (inR v3 (List.length l10)) (bindI (cellI IntKind.i64 l10 v3.toNat 0) fun n11 => ite' (decide (n11 ≥ (0 : Int))) (ite' (inR v2 (List.length v0)) (bindL (cellL 1 v0 v2.toNat 1) fun l12 => ite' (inR v3 (List.length l12)) (bindI (cellI IntKind.i64 l12 v3.toNat 0) fun n13 => bindR (call 147 [AV.d (D.list 1 v1), AV.d (D.int IntKind.i64 n13)]) fun r14 => bindL (resL 1 1 false 1 r14 0 0) fun l15 => F155.L6 k call k3 (n) (v0) (l15) (v2) (IntKind.i64.wrap (v3 + (1 : Int)))) (none)) (none)) (F155.L6 k call k3 (n) (v0) (v1) (v2) (IntKind.i64.wrap (v3 + (1 : Int))))) (none)) (none)) (F155.L3 k call  (k3) (v0) (v1) (IntKind.i64.wrap (v2 + (1 : Int))))) (none) := by kernel_rfl
theorem F155.run (k : Nat) (a0 : Ovi.Rows) : C (k + 1) 155 [AV.d (D.list 2 a0)] = F155.L3 k (C k)  (k) (a0) ([]) ((0 : Int)) := (show C (k + 1) 155 [AV.d (D.list 2 a0)] = evFnK P hs (C k) 155 k Tryz.f155 [AV.d (D.list 2 a0)] by kernel_rfl).trans (by kernel_rfl)
noncomputable def F156.L4 (k : Nat) (call : CallF)  (n : Nat) (v0 : Int) (v1 : Int) (v2 : Ovi.Rows) : Option Res := loopFn P hs call 156 k Tryz.f156 [1, 1, 0, 1, 0] [] n [(3, AV.var 192 0), (5, AV.d (D.int IntKind.i64 v0))] [(192, Blk.var [AV.d (D.int IntKind.i64 v1), AV.d (D.list 1 v2)])]
theorem F156.L4.succ (k : Nat) (call : CallF)  (n : Nat) (v0 : Int) (v1 : Int) (v2 : Ovi.Rows) : F156.L4 k call  (n + 1) v0 v1 v2 = ite' (decide (v0 < (↑(List.length v2) : Int))) (ite' (inR v0 (List.length v2)) (bindI (cellI IntKind.i64 v2 v0.toNat 0) fun n9 => bindR (call 68 [AV.d (D.int IntKind.i64 n9), AV.d (D.int IntKind.i64 (-10 : Int)), AV.d (D.int IntKind.i64 (4 : Int))]) fun r10 => bindB (resB 1 false 1 r10 0 0) fun b11 => ite' (!b11) (some ([(false, [RL.d (D.bool false)])])) (F156.L4 k call  (n) (IntKind.i64.wrap (v0 + (1 : Int))) (v1) (v2))) (none)) (some ([(false, [RL.d (D.bool true)])])) := by kernel_rfl
theorem F156.run (k : Nat) (a0 : Ovi.Rows) (a1_0 : Int) (a1_1 : Ovi.Rows) : C (k + 1) 156 [AV.d (D.list 3 a0), AV.agg [AV.d (D.int IntKind.i64 a1_0), AV.d (D.list 1 a1_1)]] = bindR ((C k) 146 [AV.d (D.list 3 a0)]) fun r5 => bindB (resB 1 false 1 r5 0 0) fun b6 => ite' (!b6) (some ([(false, [RL.d (D.bool false)])])) (bindR ((C k) 68 [AV.d (D.int IntKind.i64 a1_0), AV.d (D.int IntKind.i64 (0 : Int)), AV.d (D.int IntKind.i64 (IntKind.i64.wrap ((↑(List.length a0) : Int) - (1 : Int))))]) fun r7 => bindB (resB 1 false 1 r7 0 0) fun b8 => ite' (!b8) (some ([(false, [RL.d (D.bool false)])])) (ite' (inR a1_0 (List.length a0)) (bindI (cellI IntKind.i64 a0 a1_0.toNat 1) fun n9 => ite' ((↑(List.length a1_1) : Int) != n9) (some ([(false, [RL.d (D.bool false)])])) (F156.L4 k (C k)  (k) ((0 : Int)) (a1_0) (a1_1))) (none))) := (show C (k + 1) 156 [AV.d (D.list 3 a0), AV.agg [AV.d (D.int IntKind.i64 a1_0), AV.d (D.list 1 a1_1)]] = evFnK P hs (C k) 156 k Tryz.f156 [AV.d (D.list 3 a0), AV.agg [AV.d (D.int IntKind.i64 a1_0), AV.d (D.list 1 a1_1)]] by kernel_rfl).trans (by kernel_rfl)
theorem F157.run (k : Nat) (a0 : Int) : C (k + 1) 157 [AV.d (D.int IntKind.i64 a0)] = bindR ((C k) 80 [AV.d (D.int IntKind.i64 a0)]) fun r3 => bindI (resI IntKind.i64 2 false 1 r3 0 0) fun n4 => bindB (resB 2 false 1 r3 1 0) fun b5 => ite' (b5) (some ([(false, [RL.d (D.bool true)])])) (bindR ((C k) 68 [AV.d (D.int IntKind.i64 a0), AV.d (D.int IntKind.i64 (0 : Int)), AV.d (D.int IntKind.i64 (9 : Int))]) fun r6 => bindB (resB 1 false 1 r6 0 0) fun b7 => some ([(false, [RL.d (D.bool b7)])])) := (show C (k + 1) 157 [AV.d (D.int IntKind.i64 a0)] = evFnK P hs (C k) 157 k Tryz.f157 [AV.d (D.int IntKind.i64 a0)] by kernel_rfl).trans (by kernel_rfl)
theorem F160.run (k : Nat) (a0_0 : Int) (a0_1 : Ovi.Rows) : C (k + 1) 160 [AV.agg [AV.d (D.int IntKind.i64 a0_0), AV.d (D.list 1 a0_1)]] = bindR ((C k) 57 [AV.d (D.list 1 a0_1)]) fun r4 => bindL (resO 3 1 1 false 1 r4 0 0) fun l5 => some ([(true, [RL.d (D.int IntKind.i64 a0_0), RL.row 3 1 l5])]) := (show C (k + 1) 160 [AV.agg [AV.d (D.int IntKind.i64 a0_0), AV.d (D.list 1 a0_1)]] = evFnK P hs (C k) 160 k Tryz.f160 [AV.agg [AV.d (D.int IntKind.i64 a0_0), AV.d (D.list 1 a0_1)]] by kernel_rfl).trans (by kernel_rfl)
noncomputable def F161.L3 (k : Nat) (call : CallF)  (n : Nat) (v0 : Ovi.Rows) (v1 : Int) (v2 : Int) (v3 : List (List D)) : Option Res := loopFn P hs call 161 k Tryz.f161 [1, 1, 0, 1, 0] [] n [(3, AV.own 100003 0), (9, AV.d (D.list 2 v0)), (10, AV.d (D.int IntKind.i64 v1)), (11, AV.d (D.int IntKind.i64 v2))] [(100003, Blk.arr 3 1 0 v3 (0, 0, 0))]
noncomputable def F161.L6 (k : Nat) (call : CallF) (k3 : Nat) (n : Nat) (v0 : Ovi.Rows) (v1 : Int) (v2 : Int) (v3 : Ovi.Rows) (v4 : Int) (v5 : Int) (v6 : List (List D)) : Option Res := loopFn P hs call 161 k Tryz.f161 [1, 1, 0, 1, 0, 0, 1, 1, 0, 0, 1, 1, 0] [k3] n [(3, AV.own 100003 0), (9, AV.d (D.list 2 v0)), (10, AV.d (D.int IntKind.i64 v1)), (11, AV.d (D.int IntKind.i64 v2)), (16, AV.d (D.list 1 v3)), (17, AV.d (D.int IntKind.i64 v4)), (18, AV.d (D.int IntKind.i64 v5))] [(100003, Blk.arr 3 1 0 v6 (0, 0, 0))]
theorem F161.L3.succ (k : Nat) (call : CallF)  (n : Nat) (v0 : Ovi.Rows) (v1 : Int) (v2 : Int) (v3 : List (List D)) : F161.L3 k call  (n + 1) v0 v1 v2 v3 = ite' (decide (v2 < v1)) (ite' (inR v2 (List.length v0)) (bindI (cellI IntKind.i64 v0 v2.toNat 0) fun n8 => bindL (cellL 1 v0 v2.toNat 1) fun l9 => F161.L6 k call n (k) (v0) (v1) (v2) (l9) ((↑(List.length l9) : Int)) ((0 : Int)) (v3)) (none)) (bindR (call 215 [AV.var 0 0, AV.d (D.int IntKind.i64 (↑3 : Int)), AV.d (D.list 1 v3)]) fun r8 => bindL (resO 3 1 1 false 1 r8 0 0) fun l9 => bindR (call 216 [AV.var 0 0, AV.d (D.int IntKind.i64 (↑3 : Int)), AV.d (D.list 1 l9)]) fun r10 => bindL (resO 3 1 2 false 1 r10 0 0) fun l11 => some ([(false, [RL.row 3 1 l11])])) := by kernel_rfl
theorem F161.L6.succ (k : Nat) (call : CallF) (k3 : Nat) (n : Nat) (v0 : Ovi.Rows) (v1 : Int) (v2 : Int) (v3 : Ovi.Rows) (v4 : Int) (v5 : Int) (v6 : List (List D)) : F161.L6 k call k3 (n + 1) v0 v1 v2 v3 v4 v5 v6 = ite' (decide (v5 < v4)) (ite' (inR v5 (List.length v3)) (bindI (cellI IntKind.i64 v3 v5.toNat 0) fun n12 => ite' (decide (n12 ≥ (0 : Int))) (ite' (fits (v6.length + [[D.int IntKind.i64 n12]].length)) (F161.L6 k call k3 (n) (v0) (v1) (v2) (v3) (v4) (IntKind.i64.wrap (v5 + (1 : Int))) (v6 ++ [[D.int IntKind.i64 n12]])) (none)) (F161.L6 k call k3 (n) (v0) (v1) (v2) (v3) (v4) (IntKind.i64.wrap (v5 + (1 : Int))) (v6))) (none)) (F161.L3 k call  (k3) (v0) (v1) (IntKind.i64.wrap (v2 + (1 : Int))) (v6)) := by kernel_rfl
theorem F161.run (k : Nat) (a0 : Ovi.Rows) : C (k + 1) 161 [AV.d (D.list 2 a0)] = F161.L3 k (C k)  (k) (a0) ((↑(List.length a0) : Int)) ((0 : Int)) ([]) := (show C (k + 1) 161 [AV.d (D.list 2 a0)] = evFnK P hs (C k) 161 k Tryz.f161 [AV.d (D.list 2 a0)] by kernel_rfl).trans (by kernel_rfl)
theorem F162.run (k : Nat) (a0 : Ovi.Rows) (a1 : Ovi.Rows) (a2 : Int) : C (k + 1) 162 [AV.d (D.list 3 a0), AV.d (D.list 2 a1), AV.d (D.int IntKind.i64 a2)] = bindR ((C k) 73 [AV.d (D.int IntKind.i64 (↑(List.length a1) : Int)), AV.d (D.int IntKind.i64 (1 : Int)), AV.d (D.int IntKind.i64 a2)]) fun r5 => bindB (resB 1 false 1 r5 0 0) fun b6 => ite' (b6) (bindR ((C k) 217 [AV.d (D.list 2 a1), AV.d (D.fn 218 [[D.list 3 a0]])]) fun r7 => bindB (resB 1 false 1 r7 0 0) fun b8 => some ([(false, [RL.d (D.bool !b8)])])) (some ([(false, [RL.d (D.bool false)])])) := (show C (k + 1) 162 [AV.d (D.list 3 a0), AV.d (D.list 2 a1), AV.d (D.int IntKind.i64 a2)] = evFnK P hs (C k) 162 k Tryz.f162 [AV.d (D.list 3 a0), AV.d (D.list 2 a1), AV.d (D.int IntKind.i64 a2)] by kernel_rfl).trans (by kernel_rfl)
theorem F163.run (k : Nat) (a0 : Ovi.Rows) (a1 : FuncId) (a1c : Ovi.Rows) : C (k + 1) 163 [AV.d (D.list 1 a0), AV.d (D.fn a1 a1c)] = bindR ((C k) 220 [AV.d (D.list 1 a0), AV.d (D.fn a1 a1c)]) fun r5 => bindI (resI IntKind.i64 1 false 1 r5 0 0) fun n6 => some ([(false, [RL.d (D.bool (decide (n6 ≥ (0 : Int))))])]) := (show C (k + 1) 163 [AV.d (D.list 1 a0), AV.d (D.fn a1 a1c)] = evFnK P hs (C k) 163 k Tryz.f163 [AV.d (D.list 1 a0), AV.d (D.fn a1 a1c)] by kernel_rfl).trans (by kernel_rfl)
theorem F164.run (k : Nat) (a0 : Int) (c0_0 : Ovi.Rows) : C (k + 1) 164 [AV.d (D.int IntKind.i64 a0), AV.cap [D.list 1 c0_0] 0] = bindR ((C k) 83 [AV.d (D.list 1 c0_0), AV.d (D.int IntKind.i64 a0)]) fun r4 => bindB (resB 1 false 1 r4 0 0) fun b5 => some ([(false, [RL.d (D.bool !b5)])]) := (show C (k + 1) 164 [AV.d (D.int IntKind.i64 a0), AV.cap [D.list 1 c0_0] 0] = evFnK P hs (C k) 164 k Tryz.f164 [AV.d (D.int IntKind.i64 a0), AV.cap [D.list 1 c0_0] 0] by kernel_rfl).trans (by kernel_rfl)
theorem F165.run (k : Nat) (a0 : Int) : C (k + 1) 165 [AV.d (D.int IntKind.i64 a0)] = bindR ((C k) 73 [AV.d (D.int IntKind.i64 a0), AV.d (D.int IntKind.i64 (-40 : Int)), AV.d (D.int IntKind.i64 (9 : Int))]) fun r3 => bindB (resB 1 false 1 r3 0 0) fun b4 => some ([(false, [RL.d (D.bool b4)])]) := (show C (k + 1) 165 [AV.d (D.int IntKind.i64 a0)] = evFnK P hs (C k) 165 k Tryz.f165 [AV.d (D.int IntKind.i64 a0)] by kernel_rfl).trans (by kernel_rfl)
theorem F169.run (k : Nat) (a0_0 : Int) (a0_1 : Ovi.Rows) (a1_0 : Int) (a1_1 : Ovi.Rows) : C (k + 1) 169 [AV.agg [AV.d (D.int IntKind.i64 a0_0), AV.d (D.list 1 a0_1)], AV.agg [AV.d (D.int IntKind.i64 a1_0), AV.d (D.list 1 a1_1)]] = bindR ((C k) 225 [AV.d (D.int IntKind.i64 a0_0), AV.d (D.int IntKind.i64 a1_0)]) fun r6 => bindI (resI IntKind.i64 1 false 1 r6 0 0) fun n7 => bindR ((C k) 226 [AV.d (D.list 1 a0_1), AV.d (D.list 1 a1_1)]) fun r8 => bindI (resI IntKind.i64 1 false 1 r8 0 0) fun n9 => bindR ((C k) 224 [AV.d (D.list 1 [[D.int IntKind.i64 n7], [D.int IntKind.i64 n9]])]) fun r10 => bindI (resI IntKind.i64 1 false 1 r10 0 0) fun n11 => some ([(false, [RL.d (D.int IntKind.i64 n11)])]) := (show C (k + 1) 169 [AV.agg [AV.d (D.int IntKind.i64 a0_0), AV.d (D.list 1 a0_1)], AV.agg [AV.d (D.int IntKind.i64 a1_0), AV.d (D.list 1 a1_1)]] = evFnK P hs (C k) 169 k Tryz.f169 [AV.agg [AV.d (D.int IntKind.i64 a0_0), AV.d (D.list 1 a0_1)], AV.agg [AV.d (D.int IntKind.i64 a1_0), AV.d (D.list 1 a1_1)]] by kernel_rfl).trans (by kernel_rfl)
noncomputable def F172.L2 (k : Nat) (call : CallF)  (n : Nat) (v0 : Ovi.Rows) (v1 : Ovi.Rows) (v2 : Int) (v3 : Int) : Option Res := loopFn P hs call 172 k Tryz.f172 [1, 0, 1, 0] [] n [(0, AV.d (D.list 3 v0)), (5, AV.d (D.list 3 v1)), (6, AV.d (D.int IntKind.i64 v2)), (7, AV.d (D.int IntKind.i64 v3))] []
theorem F172.L2.succ (k : Nat) (call : CallF)  (n : Nat) (v0 : Ovi.Rows) (v1 : Ovi.Rows) (v2 : Int) (v3 : Int) : F172.L2 k call  (n + 1) v0 v1 v2 v3 = ite' (decide (v3 < v2)) (ite' (inR v3 (List.length v1)) (bindS (cellS v1 v3.toNat 0) fun s8 => bindI (cellI IntKind.i64 v1 v3.toNat 1) fun n9 => bindB (cellB v1 v3.toNat 2) fun b10 => bindR (call 227 [AV.agg [AV.d (D.str s8), AV.d (D.int IntKind.i64 n9), AV.d (D.bool b10)]]) fun r11 => bindB (resB 1 false 1 r11 0 0) fun b12 => ite' (!b12) (some ([(false, [RL.d (D.bool false)])])) (ite' (decide (v3 > (0 : Int))) (ite' (inR (IntKind.i64.wrap (v3 - (1 : Int))) (List.length v0)) (bindS (cellS v0 (IntKind.i64.wrap (v3 - (1 : Int))).toNat 0) fun s13 => ite' (sLess s8 s13 || s8 == s13) (some ([(false, [RL.d (D.bool false)])])) (F172.L2 k call  (n) (v0) (v1) (v2) (IntKind.i64.wrap (v3 + (1 : Int))))) (none)) (F172.L2 k call  (n) (v0) (v1) (v2) (IntKind.i64.wrap (v3 + (1 : Int)))))) (none)) (some ([(false, [RL.d (D.bool (decide ((↑(List.length v0) : Int) ≤ (6 : Int))))])])) := by kernel_rfl
theorem F172.run (k : Nat) (a0 : Ovi.Rows) : C (k + 1) 172 [AV.d (D.list 3 a0)] = F172.L2 k (C k)  (k) (a0) (a0) ((↑(List.length a0) : Int)) ((0 : Int)) := (show C (k + 1) 172 [AV.d (D.list 3 a0)] = evFnK P hs (C k) 172 k Tryz.f172 [AV.d (D.list 3 a0)] by kernel_rfl).trans (by kernel_rfl)
theorem F173.run (k : Nat) (a0 : Ovi.Rows) (a1_0 : Int) (a1_1 : Ovi.Rows) : C (k + 1) 173 [AV.d (D.list 3 a0), AV.agg [AV.d (D.int IntKind.i64 a1_0), AV.d (D.list 1 a1_1)]] = bindR ((C k) 172 [AV.d (D.list 3 a0)]) fun r5 => bindB (resB 1 false 1 r5 0 0) fun b6 => ite' (!b6) (some ([(false, [RL.d (D.bool false)])])) (bindR ((C k) 73 [AV.d (D.int IntKind.i64 a1_0), AV.d (D.int IntKind.i64 (0 : Int)), AV.d (D.int IntKind.i64 (IntKind.i64.wrap ((↑(List.length a0) : Int) - (1 : Int))))]) fun r7 => bindB (resB 1 false 1 r7 0 0) fun b8 => ite' (!b8) (some ([(false, [RL.d (D.bool false)])])) (ite' (inR a1_0 (List.length a0)) (bindI (cellI IntKind.i64 a0 a1_0.toNat 1) fun n9 => ite' ((↑(List.length a1_1) : Int) != n9) (some ([(false, [RL.d (D.bool false)])])) (bindR ((C k) 163 [AV.d (D.list 1 a1_1), AV.d (D.fn 228 [])]) fun r10 => bindB (resB 1 false 1 r10 0 0) fun b11 => some ([(false, [RL.d (D.bool !b11)])]))) (none))) := (show C (k + 1) 173 [AV.d (D.list 3 a0), AV.agg [AV.d (D.int IntKind.i64 a1_0), AV.d (D.list 1 a1_1)]] = evFnK P hs (C k) 173 k Tryz.f173 [AV.d (D.list 3 a0), AV.agg [AV.d (D.int IntKind.i64 a1_0), AV.d (D.list 1 a1_1)]] by kernel_rfl).trans (by kernel_rfl)
theorem F174.run (k : Nat) (a0_0 : Int) (a0_1 : Ovi.Rows) : C (k + 1) 174 [AV.agg [AV.d (D.int IntKind.i64 a0_0), AV.d (D.list 1 a0_1)]] = bindR ((C k) 212 [AV.d (D.list 1 a0_1)]) fun r4 => bindL (resO 3 1 1 false 1 r4 0 0) fun l5 => some ([(false, [RL.row 3 1 l5])]) := (show C (k + 1) 174 [AV.agg [AV.d (D.int IntKind.i64 a0_0), AV.d (D.list 1 a0_1)]] = evFnK P hs (C k) 174 k Tryz.f174 [AV.agg [AV.d (D.int IntKind.i64 a0_0), AV.d (D.list 1 a0_1)]] by kernel_rfl).trans (by kernel_rfl)
theorem F175.run (k : Nat) (a0_0 : Int) (a0_1 : Ovi.Rows) (a1_0 : Int) (a1_1 : Ovi.Rows) : C (k + 1) 175 [AV.agg [AV.d (D.int IntKind.i64 a0_0), AV.d (D.list 1 a0_1)], AV.agg [AV.d (D.int IntKind.i64 a1_0), AV.d (D.list 1 a1_1)]] = ite' (a0_0 != a1_0) (some ([(false, [RL.d (D.bool false)])])) (bindR ((C k) 60 [AV.d (D.list 1 a0_1), AV.d (D.list 1 a1_1)]) fun r6 => bindB (resB 1 false 1 r6 0 0) fun b7 => ite' (!b7) (some ([(false, [RL.d (D.bool false)])])) (some ([(false, [RL.d (D.bool true)])]))) := (show C (k + 1) 175 [AV.agg [AV.d (D.int IntKind.i64 a0_0), AV.d (D.list 1 a0_1)], AV.agg [AV.d (D.int IntKind.i64 a1_0), AV.d (D.list 1 a1_1)]] = evFnK P hs (C k) 175 k Tryz.f175 [AV.agg [AV.d (D.int IntKind.i64 a0_0), AV.d (D.list 1 a0_1)], AV.agg [AV.d (D.int IntKind.i64 a1_0), AV.d (D.list 1 a1_1)]] by kernel_rfl).trans (by kernel_rfl)
noncomputable def F176.L2 (k : Nat) (call : CallF)  (n : Nat) (v0 : Ovi.Rows) (v1 : Int) (v2 : Ovi.Rows) (v3 : Ovi.Rows) : Option Res := loopFn P hs call 176 k Tryz.f176 [1, 0, 1, 0] [] n [(1, AV.d (D.list 2 v0)), (2, AV.var 128 0), (5, AV.d (D.int IntKind.i64 v1))] [(128, Blk.var [AV.d (D.list 3 v2), AV.d (D.list 2 v3)])]
theorem F176.L2.succ (k : Nat) (call : CallF)  (n : Nat) (v0 : Ovi.Rows) (v1 : Int) (v2 : Ovi.Rows) (v3 : Ovi.Rows) : F176.L2 k call  (n + 1) v0 v1 v2 v3 = ite' (decide (v1 < (↑(List.length v0) : Int))) (ite' (inR v1 (List.length v0)) (bindI (cellI IntKind.i64 v0 v1.toNat 0) fun n10 => bindL (cellL 1 v0 v1.toNat 1) fun l11 => bindR (call 156 [AV.d (D.list 3 v2), AV.agg [AV.d (D.int IntKind.i64 n10), AV.d (D.list 1 l11)]]) fun r12 => bindB (resB 1 false 1 r12 0 0) fun b13 => ite' (!b13) (some ([(false, [RL.d (D.bool false)])])) (F176.L2 k call  (n) (v0) (IntKind.i64.wrap (v1 + (1 : Int))) (v2) (v3))) (none)) (bindR (call 67 [AV.agg [AV.d (D.list 3 v2), AV.d (D.list 2 v3)]]) fun r10 => bindB (resB 1 false 1 r10 0 0) fun b11 => ite' (b11) (some ([(false, [RL.d (D.bool (decide ((↑(List.length v0) : Int) ≤ (3 : Int))))])])) (some ([(false, [RL.d (D.bool false)])]))) := by kernel_rfl
theorem F176.run (k : Nat) (a0_0 : Ovi.Rows) (a0_1 : Ovi.Rows) (a1 : Ovi.Rows) : C (k + 1) 176 [AV.agg [AV.d (D.list 3 a0_0), AV.d (D.list 2 a0_1)], AV.d (D.list 2 a1)] = F176.L2 k (C k)  (k) (a1) ((0 : Int)) (a0_0) (a0_1) := (show C (k + 1) 176 [AV.agg [AV.d (D.list 3 a0_0), AV.d (D.list 2 a0_1)], AV.d (D.list 2 a1)] = evFnK P hs (C k) 176 k Tryz.f176 [AV.agg [AV.d (D.list 3 a0_0), AV.d (D.list 2 a0_1)], AV.d (D.list 2 a1)] by kernel_rfl).trans (by kernel_rfl)
noncomputable def F177.L5 (k : Nat) (call : CallF)  (n : Nat) (v0 : Ovi.Rows) (v1 : Int) (v2 : Ovi.Rows) (v3 : Int) (v4 : Ovi.Rows) (v5 : Ovi.Rows) (v6 : List (List D)) : Option Res := loopFn P hs call 177 k Tryz.f177 [1, 1, 1, 0, 1, 0] [] n [(1, AV.d (D.list 2 v0)), (2, AV.d (D.int IntKind.i64 v1)), (3, AV.d (D.list 1 v2)), (4, AV.var 256 0), (9, AV.own 100009 0), (10, AV.d (D.int IntKind.i64 v3))] [(256, Blk.var [AV.d (D.list 3 v4), AV.d (D.list 2 v5)]), (100009, Blk.arr 39 1 0 v6 (0, 0, 0))]
theorem F177.L5.succ (k : Nat) (call : CallF)  (n : Nat) (v0 : Ovi.Rows) (v1 : Int) (v2 : Ovi.Rows) (v3 : Int) (v4 : Ovi.Rows) (v5 : Ovi.Rows) (v6 : List (List D)) : F177.L5 k call  (n + 1) v0 v1 v2 v3 v4 v5 v6 = ite' (decide (v3 < (↑(List.length v5) : Int))) (ite' (inR v1 (List.length v0)) (bindI (cellI IntKind.i64 v0 v1.toNat 0) fun n15 => bindL (cellL 1 v0 v1.toNat 1) fun l16 => ite' (inR v3 (List.length v5)) (bindI (cellI IntKind.i64 v5 v3.toNat 0) fun n17 => bindL (cellL 1 v5 v3.toNat 1) fun l18 => bindR (call 229 [AV.agg [AV.d (D.int IntKind.i64 n15), AV.d (D.list 1 l16)], AV.agg [AV.d (D.int IntKind.i64 n17), AV.d (D.list 1 l18)], AV.d (D.list 1 v2)]) fun r19 => bindL (resO 3 1 2 false 1 r19 0 0) fun l20 => bindB (resB 2 false 1 r19 1 0) fun b21 => ite' (b21) (bindR (call 177 [AV.agg [AV.d (D.list 3 v4), AV.d (D.list 2 v5)], AV.d (D.list 2 v0), AV.d (D.int IntKind.i64 (IntKind.i64.wrap (v1 + (1 : Int)))), AV.d (D.list 1 l20)]) fun r22 => bindL (resO 39 1 1 false 1 r22 0 0) fun l23 => ite' (fits (v6.length + List.length l23)) (F177.L5 k call  (n) (v0) (v1) (v2) (IntKind.i64.wrap (v3 + (1 : Int))) (v4) (v5) (v6 ++ l23)) (none)) (F177.L5 k call  (n) (v0) (v1) (v2) (IntKind.i64.wrap (v3 + (1 : Int))) (v4) (v5) (v6))) (none)) (none)) (some ([(false, [RL.row 39 1 v6])])) := by kernel_rfl
theorem F177.run (k : Nat) (a0_0 : Ovi.Rows) (a0_1 : Ovi.Rows) (a1 : Ovi.Rows) (a2 : Int) (a3 : Ovi.Rows) : C (k + 1) 177 [AV.agg [AV.d (D.list 3 a0_0), AV.d (D.list 2 a0_1)], AV.d (D.list 2 a1), AV.d (D.int IntKind.i64 a2), AV.d (D.list 1 a3)] = ite' (a2 == (↑(List.length a1) : Int)) (ite' (fits (List.length a3)) (some ([(false, [RL.row 39 1 [[D.list 1 a3]]])])) (none)) (F177.L5 k (C k)  (k) (a1) (a2) (a3) ((0 : Int)) (a0_0) (a0_1) ([])) := (show C (k + 1) 177 [AV.agg [AV.d (D.list 3 a0_0), AV.d (D.list 2 a0_1)], AV.d (D.list 2 a1), AV.d (D.int IntKind.i64 a2), AV.d (D.list 1 a3)] = evFnK P hs (C k) 177 k Tryz.f177 [AV.agg [AV.d (D.list 3 a0_0), AV.d (D.list 2 a0_1)], AV.d (D.list 2 a1), AV.d (D.int IntKind.i64 a2), AV.d (D.list 1 a3)] by kernel_rfl).trans (by kernel_rfl)
noncomputable def F178.L2 (k : Nat) (call : CallF)  (n : Nat) (v0 : List (List D)) : Option Res := loopFn P hs call 178 k Tryz.f178 [1, 1, 0, 0] [] n [(1, AV.own 100001 0)] [(100001, Blk.arr 3 1 0 v0 (0, 0, 0))]
theorem F178.L2.succ (k : Nat) (call : CallF)  (n : Nat) (v0 : List (List D)) : F178.L2 k call  (n + 1) v0 = ite' (decide ((↑v0.length : Int) < (5 : Int))) (bindR (call 196 []) fun r4 => bindI (resI IntKind.i64 1 false 1 r4 0 0) fun n5 => ite' (fits (v0.length + [[D.int IntKind.i64 n5]].length)) (F178.L2 k call  (n) (v0 ++ [[D.int IntKind.i64 n5]])) (none)) (some ([(false, [RL.row 3 1 v0])])) := by kernel_rfl
theorem F178.run (k : Nat)  : C (k + 1) 178 [] = F178.L2 k (C k)  (k) ([]) := (show C (k + 1) 178 [] = evFnK P hs (C k) 178 k Tryz.f178 [] by kernel_rfl).trans (by kernel_rfl)
noncomputable def F179.L2 (k : Nat) (call : CallF)  (n : Nat) (v0 : Ovi.Rows) (v1 : Ovi.Rows) (v2 : Int) : Option Res := loopFn P hs call 179 k Tryz.f179 [1, 0, 1, 0] [] n [(0, AV.d (D.list 1 v0)), (1, AV.d (D.list 1 v1)), (5, AV.d (D.int IntKind.i64 v2))] []
theorem F179.L2.succ (k : Nat) (call : CallF)  (n : Nat) (v0 : Ovi.Rows) (v1 : Ovi.Rows) (v2 : Int) : F179.L2 k call  (n + 1) v0 v1 v2 = ite' (decide (v2 < (↑(List.length v0) : Int))) (ite' (decide (v2 < (↑(List.length v1) : Int))) (ite' (inR v2 (List.length v0)) (bindI (cellI IntKind.i64 v0 v2.toNat 0) fun n8 => ite' (inR v2 (List.length v1)) (bindI (cellI IntKind.i64 v1 v2.toNat 0) fun n9 => ite' (decide (n8 < n9)) (some ([(false, [RL.d (D.int IntKind.i64 (-1 : Int))])])) (ite' (inR v2 (List.length v0)) (bindI (cellI IntKind.i64 v0 v2.toNat 0) fun n10 => ite' (inR v2 (List.length v1)) (bindI (cellI IntKind.i64 v1 v2.toNat 0) fun n11 => ite' (decide (n10 > n11)) (some ([(false, [RL.d (D.int IntKind.i64 (1 : Int))])])) (F179.L2 k call  (n) (v0) (v1) (IntKind.i64.wrap (v2 + (1 : Int))))) (none)) (none))) (none)) (none)) (ite' (decide ((↑(List.length v0) : Int) < (↑(List.length v1) : Int))) (some ([(false, [RL.d (D.int IntKind.i64 (-1 : Int))])])) (ite' (decide ((↑(List.length v0) : Int) > (↑(List.length v1) : Int))) (some ([(false, [RL.d (D.int IntKind.i64 (1 : Int))])])) (some ([(false, [RL.d (D.int IntKind.i64 (0 : Int))])]))))) (ite' (decide ((↑(List.length v0) : Int) < (↑(List.length v1) : Int))) (some ([(false, [RL.d (D.int IntKind.i64 (-1 : Int))])])) (ite' (decide ((↑(List.length v0) : Int) > (↑(List.length v1) : Int))) (some ([(false, [RL.d (D.int IntKind.i64 (1 : Int))])])) (some ([(false, [RL.d (D.int IntKind.i64 (0 : Int))])])))) := by kernel_rfl
theorem F179.run (k : Nat) (a0 : Ovi.Rows) (a1 : Ovi.Rows) : C (k + 1) 179 [AV.d (D.list 1 a0), AV.d (D.list 1 a1)] = F179.L2 k (C k)  (k) (a0) (a1) ((0 : Int)) := (show C (k + 1) 179 [AV.d (D.list 1 a0), AV.d (D.list 1 a1)] = evFnK P hs (C k) 179 k Tryz.f179 [AV.d (D.list 1 a0), AV.d (D.list 1 a1)] by kernel_rfl).trans (by kernel_rfl)
noncomputable def F180.L5 (k : Nat) (call : CallF)  (n : Nat) (v0 : Int) (v1 : Int) (v2 : List (List D)) (v3 : Ovi.Rows) : Option Res := loopFn P hs call 180 k Tryz.f180 [1, 1, 1, 0, 1, 0] [] n [(5, AV.own 100005 0), (18, AV.own 100018 0), (19, AV.d (D.int IntKind.i64 v0)), (20, AV.d (D.int IntKind.i64 v1))] [(100005, Blk.arr 39 1 0 v2 (0, 0, 0)), (100018, Blk.arr 39 1 0 v3 (0, 0, 0))]
theorem F180.L5.succ (k : Nat) (call : CallF)  (n : Nat) (v0 : Int) (v1 : Int) (v2 : List (List D)) (v3 : Ovi.Rows) : F180.L5 k call  (n + 1) v0 v1 v2 v3 = ite' (decide (v1 < v0)) (ite' (inR v1 (List.length v3)) (bindL (cellL 1 v3 v1.toNat 0) fun l10 => bindR (call 233 [AV.d (D.list 1 v2), AV.d (D.list 1 l10)]) fun r11 => bindB (resB 1 false 1 r11 0 0) fun b12 => ite' (!b12) (ite' (fits (v2.length + [[D.list 1 l10]].length)) (F180.L5 k call  (n) (v0) (IntKind.i64.wrap (v1 + (1 : Int))) (v2 ++ [[D.list 1 l10]]) (v3)) (none)) (F180.L5 k call  (n) (v0) (IntKind.i64.wrap (v1 + (1 : Int))) (v2) (v3))) (none)) (some ([(false, [RL.row 39 1 v2])])) := by kernel_rfl
theorem F180.run (k : Nat) (a0_0 : Ovi.Rows) (a0_1 : Ovi.Rows) (a1 : Ovi.Rows) : C (k + 1) 180 [AV.agg [AV.d (D.list 3 a0_0), AV.d (D.list 2 a0_1)], AV.d (D.list 2 a1)] = bindR ((C k) 230 [AV.agg [AV.d (D.list 3 a0_0), AV.d (D.list 2 a0_1)], AV.d (D.list 2 a1)]) fun r5 => bindB (resB 1 false 1 r5 0 0) fun b6 => ite' (!b6) (some ([(false, [RL.nil])])) (bindR ((C k) 232 []) fun r7 => bindL (resO 3 1 1 false 1 r7 0 0) fun l8 => bindR ((C k) 231 [AV.d (D.list 2 a0_1), AV.d (D.list 2 a1), AV.d (D.list 1 l8)]) fun r9 => bindL (resO 39 1 1 false 1 r9 0 0) fun l10 => F180.L5 k (C k)  (k) ((↑(List.length l10) : Int)) ((0 : Int)) ([]) (l10)) := (show C (k + 1) 180 [AV.agg [AV.d (D.list 3 a0_0), AV.d (D.list 2 a0_1)], AV.d (D.list 2 a1)] = evFnK P hs (C k) 180 k Tryz.f180 [AV.agg [AV.d (D.list 3 a0_0), AV.d (D.list 2 a0_1)], AV.d (D.list 2 a1)] by kernel_rfl).trans (by kernel_rfl)
theorem F196.run (k : Nat)  : C (k + 1) 196 [] = some ([(false, [RL.d (D.int IntKind.i64 (10 : Int))])]) := (show C (k + 1) 196 [] = evFnK P hs (C k) 196 k Tryz.f196 [] by kernel_rfl).trans (by kernel_rfl)
theorem F210.run (k : Nat) (a0_0 : List UInt8) (a0_1 : Int) (a0_2 : Bool) : C (k + 1) 210 [AV.agg [AV.d (D.str a0_0), AV.d (D.int IntKind.i64 a0_1), AV.d (D.bool a0_2)]] = ite' ((↑a0_0.length : Int) == (1 : Int)) (ite' (inR (0 : Int) a0_0.length) (ite' (decide (byteAt a0_0 (0 : Int) ≥ (97 : Int))) (ite' (inR (0 : Int) a0_0.length) (ite' (decide (byteAt a0_0 (0 : Int) ≤ (122 : Int))) (bindR ((C k) 68 [AV.d (D.int IntKind.i64 a0_1), AV.d (D.int IntKind.i64 (1 : Int)), AV.d (D.int IntKind.i64 (3 : Int))]) fun r5 => bindB (resB 1 false 1 r5 0 0) fun b6 => some ([(false, [RL.d (D.bool b6)])])) (some ([(false, [RL.d (D.bool false)])]))) (none)) (some ([(false, [RL.d (D.bool false)])]))) (none)) (some ([(false, [RL.d (D.bool false)])])) := (show C (k + 1) 210 [AV.agg [AV.d (D.str a0_0), AV.d (D.int IntKind.i64 a0_1), AV.d (D.bool a0_2)]] = evFnK P hs (C k) 210 k Tryz.f210 [AV.agg [AV.d (D.str a0_0), AV.d (D.int IntKind.i64 a0_1), AV.d (D.bool a0_2)]] by kernel_rfl).trans (by kernel_rfl)
noncomputable def F212.L3 (k : Nat) (call : CallF)  (n : Nat) (v0 : Ovi.Rows) (v1 : Int) (v2 : Int) (v3 : List (List D)) : Option Res := loopFn P hs call 212 k Tryz.f212 [1, 1, 0, 1, 0] [] n [(3, AV.own 100003 0), (9, AV.d (D.list 1 v0)), (10, AV.d (D.int IntKind.i64 v1)), (11, AV.d (D.int IntKind.i64 v2))] [(100003, Blk.arr 3 1 0 v3 (0, 0, 0))]
theorem F212.L3.succ (k : Nat) (call : CallF)  (n : Nat) (v0 : Ovi.Rows) (v1 : Int) (v2 : Int) (v3 : List (List D)) : F212.L3 k call  (n + 1) v0 v1 v2 v3 = ite' (decide (v2 < v1)) (ite' (inR v2 (List.length v0)) (bindI (cellI IntKind.i64 v0 v2.toNat 0) fun n8 => bindR (call 82 [AV.d (D.int IntKind.i64 n8)]) fun r9 => bindI (resI IntKind.i64 2 false 1 r9 0 0) fun n10 => bindB (resB 2 false 1 r9 1 0) fun b11 => ite' (b11) (ite' (fits (v3.length + [[D.int IntKind.i64 n10]].length)) (F212.L3 k call  (n) (v0) (v1) (IntKind.i64.wrap (v2 + (1 : Int))) (v3 ++ [[D.int IntKind.i64 n10]])) (none)) (F212.L3 k call  (n) (v0) (v1) (IntKind.i64.wrap (v2 + (1 : Int))) (v3))) (none)) (bindR (call 215 [AV.var 0 0, AV.d (D.int IntKind.i64 (↑3 : Int)), AV.d (D.list 1 v3)]) fun r8 => bindL (resO 3 1 1 false 1 r8 0 0) fun l9 => bindR (call 216 [AV.var 0 0, AV.d (D.int IntKind.i64 (↑3 : Int)), AV.d (D.list 1 l9)]) fun r10 => bindL (resO 3 1 2 false 1 r10 0 0) fun l11 => some ([(false, [RL.row 3 1 l11])])) := by kernel_rfl
theorem F212.run (k : Nat) (a0 : Ovi.Rows) : C (k + 1) 212 [AV.d (D.list 1 a0)] = F212.L3 k (C k)  (k) (a0) ((↑(List.length a0) : Int)) ((0 : Int)) ([]) := (show C (k + 1) 212 [AV.d (D.list 1 a0)] = evFnK P hs (C k) 212 k Tryz.f212 [AV.d (D.list 1 a0)] by kernel_rfl).trans (by kernel_rfl)
theorem F217.run (k : Nat) (a0 : Ovi.Rows) (a1 : FuncId) (a1c : Ovi.Rows) : C (k + 1) 217 [AV.d (D.list 2 a0), AV.d (D.fn a1 a1c)] = bindR ((C k) 254 [AV.d (D.list 2 a0), AV.d (D.fn a1 a1c)]) fun r5 => bindI (resI IntKind.i64 1 false 1 r5 0 0) fun n6 => some ([(false, [RL.d (D.bool (decide (n6 ≥ (0 : Int))))])]) := (show C (k + 1) 217 [AV.d (D.list 2 a0), AV.d (D.fn a1 a1c)] = evFnK P hs (C k) 217 k Tryz.f217 [AV.d (D.list 2 a0), AV.d (D.fn a1 a1c)] by kernel_rfl).trans (by kernel_rfl)
theorem F218.run (k : Nat) (a0_0 : Int) (a0_1 : Ovi.Rows) (c0_0 : Ovi.Rows) : C (k + 1) 218 [AV.agg [AV.d (D.int IntKind.i64 a0_0), AV.d (D.list 1 a0_1)], AV.cap [D.list 3 c0_0] 0] = bindR ((C k) 219 [AV.d (D.list 3 c0_0), AV.agg [AV.d (D.int IntKind.i64 a0_0), AV.d (D.list 1 a0_1)]]) fun r5 => bindB (resB 1 false 1 r5 0 0) fun b6 => some ([(false, [RL.d (D.bool !b6)])]) := (show C (k + 1) 218 [AV.agg [AV.d (D.int IntKind.i64 a0_0), AV.d (D.list 1 a0_1)], AV.cap [D.list 3 c0_0] 0] = evFnK P hs (C k) 218 k Tryz.f218 [AV.agg [AV.d (D.int IntKind.i64 a0_0), AV.d (D.list 1 a0_1)], AV.cap [D.list 3 c0_0] 0] by kernel_rfl).trans (by kernel_rfl)
theorem F219.run (k : Nat) (a0 : Ovi.Rows) (a1_0 : Int) (a1_1 : Ovi.Rows) : C (k + 1) 219 [AV.d (D.list 3 a0), AV.agg [AV.d (D.int IntKind.i64 a1_0), AV.d (D.list 1 a1_1)]] = bindR ((C k) 172 [AV.d (D.list 3 a0)]) fun r5 => bindB (resB 1 false 1 r5 0 0) fun b6 => ite' (!b6) (some ([(false, [RL.d (D.bool false)])])) (bindR ((C k) 73 [AV.d (D.int IntKind.i64 a1_0), AV.d (D.int IntKind.i64 (0 : Int)), AV.d (D.int IntKind.i64 (IntKind.i64.wrap ((↑(List.length a0) : Int) - (1 : Int))))]) fun r7 => bindB (resB 1 false 1 r7 0 0) fun b8 => ite' (!b8) (some ([(false, [RL.d (D.bool false)])])) (ite' (inR a1_0 (List.length a0)) (bindI (cellI IntKind.i64 a0 a1_0.toNat 1) fun n9 => ite' ((↑(List.length a1_1) : Int) != n9) (some ([(false, [RL.d (D.bool false)])])) (bindR ((C k) 163 [AV.d (D.list 1 a1_1), AV.d (D.fn 255 [])]) fun r10 => bindB (resB 1 false 1 r10 0 0) fun b11 => some ([(false, [RL.d (D.bool !b11)])]))) (none))) := (show C (k + 1) 219 [AV.d (D.list 3 a0), AV.agg [AV.d (D.int IntKind.i64 a1_0), AV.d (D.list 1 a1_1)]] = evFnK P hs (C k) 219 k Tryz.f219 [AV.d (D.list 3 a0), AV.agg [AV.d (D.int IntKind.i64 a1_0), AV.d (D.list 1 a1_1)]] by kernel_rfl).trans (by kernel_rfl)
noncomputable def F220.L2 (k : Nat) (call : CallF)  (n : Nat) (v0 : Ovi.Rows) (v1 : FuncId) (v2 : Ovi.Rows) (v3 : Int) (v4 : Int) : Option Res := loopFn P hs call 220 k Tryz.f220 [1, 0, 1, 0] [] n [(0, AV.d (D.list 1 v0)), (1, AV.d (D.fn v1 v2)), (7, AV.d (D.int IntKind.i64 v3)), (8, AV.d (D.int IntKind.i64 v4))] []
theorem F220.L2.succ (k : Nat) (call : CallF)  (n : Nat) (v0 : Ovi.Rows) (v1 : FuncId) (v2 : Ovi.Rows) (v3 : Int) (v4 : Int) : F220.L2 k call  (n + 1) v0 v1 v2 v3 v4 = ite' (decide (v4 < v3)) (ite' (inR v4 (List.length v0)) (bindI (cellI IntKind.i64 v0 v4.toNat 0) fun n11 => bindR (call v1 (AV.d (D.int IntKind.i64 n11) :: [].append (List.map (fun (c : List D) => AV.cap c 0) v2))) fun r12 => bindB (resB 1 false 1 r12 0 0) fun b13 => ite' (b13) (some ([(false, [RL.d (D.int IntKind.i64 v4)])])) (F220.L2 k call  (n) (v0) (v1) (v2) (v3) (IntKind.i64.wrap (v4 + (1 : Int))))) (none)) (some ([(false, [RL.d (D.int IntKind.i64 (-1 : Int))])])) := by kernel_rfl
theorem F220.run (k : Nat) (a0 : Ovi.Rows) (a1 : FuncId) (a1c : Ovi.Rows) : C (k + 1) 220 [AV.d (D.list 1 a0), AV.d (D.fn a1 a1c)] = F220.L2 k (C k)  (k) (a0) (a1) (a1c) ((↑(List.length a0) : Int)) ((0 : Int)) := (show C (k + 1) 220 [AV.d (D.list 1 a0), AV.d (D.fn a1 a1c)] = evFnK P hs (C k) 220 k Tryz.f220 [AV.d (D.list 1 a0), AV.d (D.fn a1 a1c)] by kernel_rfl).trans (by kernel_rfl)
noncomputable def F224.L3 (k : Nat) (call : CallF)  (n : Nat) (v0 : Int) (v1 : Ovi.Rows) (v2 : Int) (v3 : Int) : Option Res := loopFn P hs call 224 k Tryz.f224 [1, 1, 0, 1, 0] [] n [(3, AV.d (D.int IntKind.i64 v0)), (6, AV.d (D.list 1 v1)), (7, AV.d (D.int IntKind.i64 v2)), (8, AV.d (D.int IntKind.i64 v3))] []
theorem F224.L3.succ (k : Nat) (call : CallF)  (n : Nat) (v0 : Int) (v1 : Ovi.Rows) (v2 : Int) (v3 : Int) : F224.L3 k call  (n + 1) v0 v1 v2 v3 = ite' (decide (v3 < v2)) (ite' (inR v3 (List.length v1)) (bindI (cellI IntKind.i64 v1 v3.toNat 0) fun n8 => ite' (n8 != v0) (some ([(false, [RL.d (D.int IntKind.i64 n8)])])) (F224.L3 k call  (n) (v0) (v1) (v2) (IntKind.i64.wrap (v3 + (1 : Int))))) (none)) (some ([(false, [RL.d (D.int IntKind.i64 v0)])])) := by kernel_rfl
theorem F224.run (k : Nat) (a0 : Ovi.Rows) : C (k + 1) 224 [AV.d (D.list 1 a0)] = F224.L3 k (C k)  (k) ((0 : Int)) (a0) ((↑(List.length a0) : Int)) ((0 : Int)) := (show C (k + 1) 224 [AV.d (D.list 1 a0)] = evFnK P hs (C k) 224 k Tryz.f224 [AV.d (D.list 1 a0)] by kernel_rfl).trans (by kernel_rfl)
theorem F225.run (k : Nat) (a0 : Int) (a1 : Int) : C (k + 1) 225 [AV.d (D.int IntKind.i64 a0), AV.d (D.int IntKind.i64 a1)] = bindR ((C k) 266 [AV.d (D.int IntKind.i64 a0)]) fun r4 => bindB (resB 1 false 1 r4 0 0) fun b5 => bindR ((C k) 266 [AV.d (D.int IntKind.i64 a1)]) fun r6 => bindB (resB 1 false 1 r6 0 0) fun b7 => ite' (b5) (ite' (b7) (some ([(false, [RL.d (D.int IntKind.i64 (0 : Int))])])) (some ([(false, [RL.d (D.int IntKind.i64 (-1 : Int))])]))) (ite' (b7) (some ([(false, [RL.d (D.int IntKind.i64 (1 : Int))])])) (ite' (decide (a0 < a1)) (some ([(false, [RL.d (D.int IntKind.i64 (-1 : Int))])])) (ite' (decide (a0 > a1)) (some ([(false, [RL.d (D.int IntKind.i64 (1 : Int))])])) (some ([(false, [RL.d (D.int IntKind.i64 (0 : Int))])]))))) := (show C (k + 1) 225 [AV.d (D.int IntKind.i64 a0), AV.d (D.int IntKind.i64 a1)] = evFnK P hs (C k) 225 k Tryz.f225 [AV.d (D.int IntKind.i64 a0), AV.d (D.int IntKind.i64 a1)] by kernel_rfl).trans (by kernel_rfl)
noncomputable def F226.L2 (k : Nat) (call : CallF)  (n : Nat) (v0 : Ovi.Rows) (v1 : Ovi.Rows) (v2 : Ovi.Rows) (v3 : Int) (v4 : Int) : Option Res := loopFn P hs call 226 k Tryz.f226 [1, 0, 1, 0] [] n [(0, AV.d (D.list 1 v0)), (1, AV.d (D.list 1 v1)), (9, AV.d (D.list 1 v2)), (10, AV.d (D.int IntKind.i64 v3)), (11, AV.d (D.int IntKind.i64 v4))] []
theorem F226.L2.succ (k : Nat) (call : CallF)  (n : Nat) (v0 : Ovi.Rows) (v1 : Ovi.Rows) (v2 : Ovi.Rows) (v3 : Int) (v4 : Int) : F226.L2 k call  (n + 1) v0 v1 v2 v3 v4 = ite' (decide (v4 < v3)) (ite' (inR v4 (List.length v2)) (bindI (cellI IntKind.i64 v2 v4.toNat 0) fun n10 => ite' (decide (v4 ≥ (↑(List.length v1) : Int))) (some ([(false, [RL.d (D.int IntKind.i64 (1 : Int))])])) (ite' (inR v4 (List.length v1)) (bindI (cellI IntKind.i64 v1 v4.toNat 0) fun n11 => bindR (call 225 [AV.d (D.int IntKind.i64 n10), AV.d (D.int IntKind.i64 n11)]) fun r12 => bindI (resI IntKind.i64 1 false 1 r12 0 0) fun n13 => ite' (n13 != (0 : Int)) (some ([(false, [RL.d (D.int IntKind.i64 n13)])])) (F226.L2 k call  (n) (v0) (v1) (v2) (v3) (IntKind.i64.wrap (v4 + (1 : Int))))) (none))) (none)) (ite' (decide ((↑(List.length v0) : Int) < (↑(List.length v1) : Int))) (some ([(false, [RL.d (D.int IntKind.i64 (-1 : Int))])])) (some ([(false, [RL.d (D.int IntKind.i64 (0 : Int))])]))) := by kernel_rfl
theorem F226.run (k : Nat) (a0 : Ovi.Rows) (a1 : Ovi.Rows) : C (k + 1) 226 [AV.d (D.list 1 a0), AV.d (D.list 1 a1)] = F226.L2 k (C k)  (k) (a0) (a1) (a0) ((↑(List.length a0) : Int)) ((0 : Int)) := (show C (k + 1) 226 [AV.d (D.list 1 a0), AV.d (D.list 1 a1)] = evFnK P hs (C k) 226 k Tryz.f226 [AV.d (D.list 1 a0), AV.d (D.list 1 a1)] by kernel_rfl).trans (by kernel_rfl)
theorem F227.run (k : Nat) (a0_0 : List UInt8) (a0_1 : Int) (a0_2 : Bool) : C (k + 1) 227 [AV.agg [AV.d (D.str a0_0), AV.d (D.int IntKind.i64 a0_1), AV.d (D.bool a0_2)]] = ite' ((↑a0_0.length : Int) == (1 : Int)) (ite' (!sLess a0_0 ([(97 : UInt8)] : List UInt8)) (ite' (sLess a0_0 ([(122 : UInt8)] : List UInt8) || a0_0 == ([(122 : UInt8)] : List UInt8)) (bindR ((C k) 73 [AV.d (D.int IntKind.i64 a0_1), AV.d (D.int IntKind.i64 (1 : Int)), AV.d (D.int IntKind.i64 (3 : Int))]) fun r5 => bindB (resB 1 false 1 r5 0 0) fun b6 => some ([(false, [RL.d (D.bool b6)])])) (some ([(false, [RL.d (D.bool false)])]))) (some ([(false, [RL.d (D.bool false)])]))) (some ([(false, [RL.d (D.bool false)])])) := (show C (k + 1) 227 [AV.agg [AV.d (D.str a0_0), AV.d (D.int IntKind.i64 a0_1), AV.d (D.bool a0_2)]] = evFnK P hs (C k) 227 k Tryz.f227 [AV.agg [AV.d (D.str a0_0), AV.d (D.int IntKind.i64 a0_1), AV.d (D.bool a0_2)]] by kernel_rfl).trans (by kernel_rfl)
theorem F228.run (k : Nat) (a0 : Int) : C (k + 1) 228 [AV.d (D.int IntKind.i64 a0)] = bindR ((C k) 165 [AV.d (D.int IntKind.i64 a0)]) fun r3 => bindB (resB 1 false 1 r3 0 0) fun b4 => some ([(false, [RL.d (D.bool !b4)])]) := (show C (k + 1) 228 [AV.d (D.int IntKind.i64 a0)] = evFnK P hs (C k) 228 k Tryz.f228 [AV.d (D.int IntKind.i64 a0)] by kernel_rfl).trans (by kernel_rfl)
noncomputable def F229.L5 (k : Nat) (call : CallF)  (n : Nat) (v0 : Int) (v1 : Int) (v2 : Ovi.Rows) (v3 : Int) (v4 : Ovi.Rows) (v5 : Ovi.Rows) : Option Res := loopFn P hs call 229 k Tryz.f229 [1, 1, 1, 0, 1, 0] [] n [(3, AV.var 192 0), (4, AV.var 256 0), (8, AV.own 100008 0), (9, AV.d (D.int IntKind.i64 v0))] [(192, Blk.var [AV.d (D.int IntKind.i64 v1), AV.d (D.list 1 v2)]), (256, Blk.var [AV.d (D.int IntKind.i64 v3), AV.d (D.list 1 v4)]), (100008, Blk.arr 3 1 0 v5 (0, 0, 0))]
theorem F229.L5.succ (k : Nat) (call : CallF)  (n : Nat) (v0 : Int) (v1 : Int) (v2 : Ovi.Rows) (v3 : Int) (v4 : Ovi.Rows) (v5 : Ovi.Rows) : F229.L5 k call  (n + 1) v0 v1 v2 v3 v4 v5 = ite' (decide (v0 < (↑(List.length v2) : Int))) (ite' (inR v0 (List.length v2)) (bindI (cellI IntKind.i64 v2 v0.toNat 0) fun n14 => ite' (decide (n14 < (0 : Int))) (ite' (inR v0 (List.length v4)) (bindI (cellI IntKind.i64 v4 v0.toNat 0) fun n15 => ite' (IntKind.i64.wrap ((-1 : Int) - n14) != n15) (some ([(false, [RL.row 3 1 v5]), (false, [RL.d (D.bool false)])])) (F229.L5 k call  (n) (IntKind.i64.wrap (v0 + (1 : Int))) (v1) (v2) (v3) (v4) (v5))) (none)) (ite' (inR n14 (List.length v5)) (bindI (cellI IntKind.i64 v5 n14.toNat 0) fun n15 => bindR (call 196 []) fun r16 => bindI (resI IntKind.i64 1 false 1 r16 0 0) fun n17 => ite' (n15 != n17) (ite' (inR n14 (List.length v5)) (bindI (cellI IntKind.i64 v5 n14.toNat 0) fun n18 => ite' (inR v0 (List.length v4)) (bindI (cellI IntKind.i64 v4 v0.toNat 0) fun n19 => ite' (n18 != n19) (some ([(false, [RL.row 3 1 v5]), (false, [RL.d (D.bool false)])])) (ite' (inR v0 (List.length v4)) (bindI (cellI IntKind.i64 v4 v0.toNat 0) fun n20 => ite' (inR n14 (List.length v5)) (F229.L5 k call  (n) (IntKind.i64.wrap (v0 + (1 : Int))) (v1) (v2) (v3) (v4) (rowsSet v5 n14.toNat 0 [D.int IntKind.i64 n20])) (none)) (none))) (none)) (none)) (ite' (inR v0 (List.length v4)) (bindI (cellI IntKind.i64 v4 v0.toNat 0) fun n18 => ite' (inR n14 (List.length v5)) (F229.L5 k call  (n) (IntKind.i64.wrap (v0 + (1 : Int))) (v1) (v2) (v3) (v4) (rowsSet v5 n14.toNat 0 [D.int IntKind.i64 n18])) (none)) (none))) (none))) (none)) (some ([(false, [RL.row 3 1 v5]), (false, [RL.d (D.bool true)])])) := by kernel_rfl
theorem F229.run (k : Nat) (a0_0 : Int) (a0_1 : Ovi.Rows) (a1_0 : Int) (a1_1 : Ovi.Rows) (a2 : Ovi.Rows) : C (k + 1) 229 [AV.agg [AV.d (D.int IntKind.i64 a0_0), AV.d (D.list 1 a0_1)], AV.agg [AV.d (D.int IntKind.i64 a1_0), AV.d (D.list 1 a1_1)], AV.d (D.list 1 a2)] = ite' (fits (List.length a2)) (ite' (a0_0 != a1_0) (some ([(false, [RL.row 3 1 a2]), (false, [RL.d (D.bool false)])])) (ite' ((↑(List.length a0_1) : Int) != (↑(List.length a1_1) : Int)) (some ([(false, [RL.row 3 1 a2]), (false, [RL.d (D.bool false)])])) (F229.L5 k (C k)  (k) ((0 : Int)) (a0_0) (a0_1) (a1_0) (a1_1) (a2)))) (none) := (show C (k + 1) 229 [AV.agg [AV.d (D.int IntKind.i64 a0_0), AV.d (D.list 1 a0_1)], AV.agg [AV.d (D.int IntKind.i64 a1_0), AV.d (D.list 1 a1_1)], AV.d (D.list 1 a2)] = evFnK P hs (C k) 229 k Tryz.f229 [AV.agg [AV.d (D.int IntKind.i64 a0_0), AV.d (D.list 1 a0_1)], AV.agg [AV.d (D.int IntKind.i64 a1_0), AV.d (D.list 1 a1_1)], AV.d (D.list 1 a2)] by kernel_rfl).trans (by kernel_rfl)
theorem F230.run (k : Nat) (a0_0 : Ovi.Rows) (a0_1 : Ovi.Rows) (a1 : Ovi.Rows) : C (k + 1) 230 [AV.agg [AV.d (D.list 3 a0_0), AV.d (D.list 2 a0_1)], AV.d (D.list 2 a1)] = bindR ((C k) 100 [AV.agg [AV.d (D.list 3 a0_0), AV.d (D.list 2 a0_1)]]) fun r5 => bindB (resB 1 false 1 r5 0 0) fun b6 => ite' (b6) (ite' ((↑(List.length a1) : Int) == (0 : Int)) (some ([(false, [RL.d (D.bool true)])])) (bindR ((C k) 162 [AV.d (D.list 3 a0_0), AV.d (D.list 2 a1), AV.d (D.int IntKind.i64 (3 : Int))]) fun r7 => bindB (resB 1 false 1 r7 0 0) fun b8 => some ([(false, [RL.d (D.bool b8)])]))) (some ([(false, [RL.d (D.bool false)])])) := (show C (k + 1) 230 [AV.agg [AV.d (D.list 3 a0_0), AV.d (D.list 2 a0_1)], AV.d (D.list 2 a1)] = evFnK P hs (C k) 230 k Tryz.f230 [AV.agg [AV.d (D.list 3 a0_0), AV.d (D.list 2 a0_1)], AV.d (D.list 2 a1)] by kernel_rfl).trans (by kernel_rfl)
noncomputable def F231.L5 (k : Nat) (call : CallF)  (n : Nat) (v0 : Ovi.Rows) (v1 : Ovi.Rows) (v2 : Ovi.Rows) (v3 : Ovi.Rows) (v4 : Int) (v5 : Int) (v6 : List (List D)) : Option Res := loopFn P hs call 231 k Tryz.f231 [1, 1, 1, 0, 1, 0] [] n [(0, AV.d (D.list 2 v0)), (1, AV.d (D.list 2 v1)), (2, AV.d (D.list 1 v2)), (7, AV.own 100007 0), (18, AV.d (D.list 2 v3)), (19, AV.d (D.int IntKind.i64 v4)), (20, AV.d (D.int IntKind.i64 v5))] [(100007, Blk.arr 39 1 0 v6 (0, 0, 0))]
theorem F231.L5.succ (k : Nat) (call : CallF)  (n : Nat) (v0 : Ovi.Rows) (v1 : Ovi.Rows) (v2 : Ovi.Rows) (v3 : Ovi.Rows) (v4 : Int) (v5 : Int) (v6 : List (List D)) : F231.L5 k call  (n + 1) v0 v1 v2 v3 v4 v5 v6 = ite' (decide (v5 < v4)) (ite' (inR v5 (List.length v3)) (bindI (cellI IntKind.i64 v3 v5.toNat 0) fun n13 => bindL (cellL 1 v3 v5.toNat 1) fun l14 => ite' (inR (0 : Int) (List.length v1)) (bindI (cellI IntKind.i64 v1 0 0) fun n15 => bindL (cellL 1 v1 0 1) fun l16 => bindR (call 267 [AV.d (D.list 1 v2), AV.agg [AV.d (D.int IntKind.i64 n15), AV.d (D.list 1 l16)], AV.agg [AV.d (D.int IntKind.i64 n13), AV.d (D.list 1 l14)]]) fun r17 => bindL (resO 3 1 2 false 1 r17 0 0) fun l18 => bindB (resB 2 false 1 r17 1 0) fun b19 => ite' (b19) (ite' (inS (1 : Int) (↑(List.length v1) : Int) (List.length v1)) (bindR (call 231 [AV.d (D.list 2 v0), AV.d (D.list 2 (List.drop 1 v1)), AV.d (D.list 1 l18)]) fun r20 => bindL (resO 39 1 1 false 1 r20 0 0) fun l21 => ite' (fits (v6.length + List.length l21)) (F231.L5 k call  (n) (v0) (v1) (v2) (v3) (v4) (IntKind.i64.wrap (v5 + (1 : Int))) (v6 ++ l21)) (none)) (none)) (F231.L5 k call  (n) (v0) (v1) (v2) (v3) (v4) (IntKind.i64.wrap (v5 + (1 : Int))) (v6))) (none)) (none)) (some ([(false, [RL.row 39 1 v6])])) := by kernel_rfl
theorem F231.run (k : Nat) (a0 : Ovi.Rows) (a1 : Ovi.Rows) (a2 : Ovi.Rows) : C (k + 1) 231 [AV.d (D.list 2 a0), AV.d (D.list 2 a1), AV.d (D.list 1 a2)] = ite' ((↑(List.length a1) : Int) == (0 : Int)) (some ([(false, [RL.row 39 1 [[D.list 1 a2]]])])) (F231.L5 k (C k)  (k) (a0) (a1) (a2) (a0) ((↑(List.length a0) : Int)) ((0 : Int)) ([])) := (show C (k + 1) 231 [AV.d (D.list 2 a0), AV.d (D.list 2 a1), AV.d (D.list 1 a2)] = evFnK P hs (C k) 231 k Tryz.f231 [AV.d (D.list 2 a0), AV.d (D.list 2 a1), AV.d (D.list 1 a2)] by kernel_rfl).trans (by kernel_rfl)
theorem F232.run (k : Nat)  : C (k + 1) 232 [] = bindR ((C k) 268 [AV.d (D.list 1 [[D.int IntKind.i64 (10 : Int)]]), AV.d (D.int IntKind.i64 (5 : Int))]) fun r2 => bindL (resO 3 1 1 false 1 r2 0 0) fun l3 => some ([(false, [RL.row 3 1 l3])]) := (show C (k + 1) 232 [] = evFnK P hs (C k) 232 k Tryz.f232 [] by kernel_rfl).trans (by kernel_rfl)
theorem F233.run (k : Nat) (a0 : Ovi.Rows) (a1 : Ovi.Rows) : C (k + 1) 233 [AV.d (D.list 1 a0), AV.d (D.list 1 a1)] = bindR ((C k) 269 [AV.d (D.list 1 a0), AV.d (D.fn 270 [[D.list 1 a1]])]) fun r4 => bindB (resB 1 false 1 r4 0 0) fun b5 => some ([(false, [RL.d (D.bool b5)])]) := (show C (k + 1) 233 [AV.d (D.list 1 a0), AV.d (D.list 1 a1)] = evFnK P hs (C k) 233 k Tryz.f233 [AV.d (D.list 1 a0), AV.d (D.list 1 a1)] by kernel_rfl).trans (by kernel_rfl)
noncomputable def F236.L4 (k : Nat) (call : CallF)  (n : Nat) (v0 : Ovi.Rows) (v1 : Ovi.Rows) (v2 : Int) (v3 : Int) : Option Res := loopFn P hs call 236 k Tryz.f236 [1, 1, 0, 1, 0] [] n [(0, AV.d (D.list 1 v0)), (1, AV.d (D.list 1 v1)), (12, AV.d (D.int IntKind.i64 v2)), (13, AV.d (D.int IntKind.i64 v3))] []
theorem F236.L4.succ (k : Nat) (call : CallF)  (n : Nat) (v0 : Ovi.Rows) (v1 : Ovi.Rows) (v2 : Int) (v3 : Int) : F236.L4 k call  (n + 1) v0 v1 v2 v3 = ite' (decide (v3 < v2)) (ite' (inR v3 (List.length v0)) (bindI (cellI IntKind.i64 v0 v3.toNat 0) fun n9 => ite' (inR v3 (List.length v1)) (bindI (cellI IntKind.i64 v1 v3.toNat 0) fun n10 => ite' (n9 != n10) (some ([(false, [RL.d (D.bool false)])])) (F236.L4 k call  (n) (v0) (v1) (v2) (IntKind.i64.wrap (v3 + (1 : Int))))) (none)) (none)) (some ([(false, [RL.d (D.bool true)])])) := by kernel_rfl
theorem F236.run (k : Nat) (a0 : Ovi.Rows) (a1 : Ovi.Rows) : C (k + 1) 236 [AV.d (D.list 1 a0), AV.d (D.list 1 a1)] = ite' ((↑(List.length a0) : Int) != (↑(List.length a1) : Int)) (some ([(false, [RL.d (D.bool false)])])) (F236.L4 k (C k)  (k) (a0) (a1) ((↑(List.length a0) : Int)) ((0 : Int))) := (show C (k + 1) 236 [AV.d (D.list 1 a0), AV.d (D.list 1 a1)] = evFnK P hs (C k) 236 k Tryz.f236 [AV.d (D.list 1 a0), AV.d (D.list 1 a1)] by kernel_rfl).trans (by kernel_rfl)
noncomputable def F254.L2 (k : Nat) (call : CallF)  (n : Nat) (v0 : Ovi.Rows) (v1 : FuncId) (v2 : Ovi.Rows) (v3 : Int) (v4 : Int) : Option Res := loopFn P hs call 254 k Tryz.f254 [1, 0, 1, 0] [] n [(0, AV.d (D.list 2 v0)), (1, AV.d (D.fn v1 v2)), (7, AV.d (D.int IntKind.i64 v3)), (8, AV.d (D.int IntKind.i64 v4))] []
theorem F254.L2.succ (k : Nat) (call : CallF)  (n : Nat) (v0 : Ovi.Rows) (v1 : FuncId) (v2 : Ovi.Rows) (v3 : Int) (v4 : Int) : F254.L2 k call  (n + 1) v0 v1 v2 v3 v4 = ite' (decide (v4 < v3)) (ite' (inR v4 (List.length v0)) (bindI (cellI IntKind.i64 v0 v4.toNat 0) fun n11 => bindL (cellL 1 v0 v4.toNat 1) fun l12 => bindR (call v1 (AV.agg [AV.d (D.int IntKind.i64 n11), AV.d (D.list 1 l12)] :: [].append (List.map (fun (c : List D) => AV.cap c 0) v2))) fun r13 => bindB (resB 1 false 1 r13 0 0) fun b14 => ite' (b14) (some ([(false, [RL.d (D.int IntKind.i64 v4)])])) (F254.L2 k call  (n) (v0) (v1) (v2) (v3) (IntKind.i64.wrap (v4 + (1 : Int))))) (none)) (some ([(false, [RL.d (D.int IntKind.i64 (-1 : Int))])])) := by kernel_rfl
theorem F254.run (k : Nat) (a0 : Ovi.Rows) (a1 : FuncId) (a1c : Ovi.Rows) : C (k + 1) 254 [AV.d (D.list 2 a0), AV.d (D.fn a1 a1c)] = F254.L2 k (C k)  (k) (a0) (a1) (a1c) ((↑(List.length a0) : Int)) ((0 : Int)) := (show C (k + 1) 254 [AV.d (D.list 2 a0), AV.d (D.fn a1 a1c)] = evFnK P hs (C k) 254 k Tryz.f254 [AV.d (D.list 2 a0), AV.d (D.fn a1 a1c)] by kernel_rfl).trans (by kernel_rfl)
theorem F255.run (k : Nat) (a0 : Int) : C (k + 1) 255 [AV.d (D.int IntKind.i64 a0)] = bindR ((C k) 73 [AV.d (D.int IntKind.i64 a0), AV.d (D.int IntKind.i64 (-10 : Int)), AV.d (D.int IntKind.i64 (4 : Int))]) fun r3 => bindB (resB 1 false 1 r3 0 0) fun b4 => some ([(false, [RL.d (D.bool !b4)])]) := (show C (k + 1) 255 [AV.d (D.int IntKind.i64 a0)] = evFnK P hs (C k) 255 k Tryz.f255 [AV.d (D.int IntKind.i64 a0)] by kernel_rfl).trans (by kernel_rfl)
theorem F266.run (k : Nat) (a0 : Int) : C (k + 1) 266 [AV.d (D.int IntKind.i64 a0)] = some ([(false, [RL.d (D.bool (a0 != a0))])]) := (show C (k + 1) 266 [AV.d (D.int IntKind.i64 a0)] = evFnK P hs (C k) 266 k Tryz.f266 [AV.d (D.int IntKind.i64 a0)] by kernel_rfl).trans (by kernel_rfl)
noncomputable def F267.L5 (k : Nat) (call : CallF)  (n : Nat) (v0 : Ovi.Rows) (v1 : Int) (v2 : Int) (v3 : Int) (v4 : Ovi.Rows) (v5 : Ovi.Rows) : Option Res := loopFn P hs call 267 k Tryz.f267 [1, 1, 1, 0, 1, 0] [] n [(5, AV.var 320 0), (8, AV.own 100008 0), (20, AV.d (D.list 1 v0)), (21, AV.d (D.int IntKind.i64 v1)), (22, AV.d (D.int IntKind.i64 v2))] [(320, Blk.var [AV.d (D.int IntKind.i64 v3), AV.d (D.list 1 v4)]), (100008, Blk.arr 3 1 0 v5 (0, 0, 0))]
theorem F267.L5.succ (k : Nat) (call : CallF)  (n : Nat) (v0 : Ovi.Rows) (v1 : Int) (v2 : Int) (v3 : Int) (v4 : Ovi.Rows) (v5 : Ovi.Rows) : F267.L5 k call  (n + 1) v0 v1 v2 v3 v4 v5 = ite' (decide (v2 < v1)) (ite' (inR v2 (List.length v0)) (bindI (cellI IntKind.i64 v0 v2.toNat 0) fun n14 => ite' (inR v2 (List.length v4)) (bindI (cellI IntKind.i64 v4 v2.toNat 0) fun n15 => ite' (decide (n14 < (0 : Int))) (ite' (n15 != IntKind.i64.wrap ((-1 : Int) - n14)) (some ([(false, [RL.nil]), (false, [RL.d (D.bool false)])])) (F267.L5 k call  (n) (v0) (v1) (IntKind.i64.wrap (v2 + (1 : Int))) (v3) (v4) (v5))) (ite' (inR n14 (List.length v5)) (bindI (cellI IntKind.i64 v5 n14.toNat 0) fun n16 => ite' (n16 == (10 : Int)) (ite' (inR n14 (List.length v5)) (F267.L5 k call  (n) (v0) (v1) (IntKind.i64.wrap (v2 + (1 : Int))) (v3) (v4) (rowsSet v5 n14.toNat 0 [D.int IntKind.i64 n15])) (none)) (ite' (inR n14 (List.length v5)) (bindI (cellI IntKind.i64 v5 n14.toNat 0) fun n17 => ite' (n17 != n15) (some ([(false, [RL.nil]), (false, [RL.d (D.bool false)])])) (F267.L5 k call  (n) (v0) (v1) (IntKind.i64.wrap (v2 + (1 : Int))) (v3) (v4) (v5))) (none))) (none))) (none)) (none)) (some ([(false, [RL.row 3 1 v5]), (false, [RL.d (D.bool true)])])) := by kernel_rfl
theorem F267.run (k : Nat) (a0 : Ovi.Rows) (a1_0 : Int) (a1_1 : Ovi.Rows) (a2_0 : Int) (a2_1 : Ovi.Rows) : C (k + 1) 267 [AV.d (D.list 1 a0), AV.agg [AV.d (D.int IntKind.i64 a1_0), AV.d (D.list 1 a1_1)], AV.agg [AV.d (D.int IntKind.i64 a2_0), AV.d (D.list 1 a2_1)]] = ite' (a1_0 != a2_0) (some ([(false, [RL.nil]), (false, [RL.d (D.bool false)])])) (bindR ((C k) 192 [AV.d (D.list 1 a0)]) fun r7 => bindL (resO 3 1 1 false 1 r7 0 0) fun l8 => F267.L5 k (C k)  (k) (a1_1) ((↑(List.length a1_1) : Int)) ((0 : Int)) (a2_0) (a2_1) (l8)) := (show C (k + 1) 267 [AV.d (D.list 1 a0), AV.agg [AV.d (D.int IntKind.i64 a1_0), AV.d (D.list 1 a1_1)], AV.agg [AV.d (D.int IntKind.i64 a2_0), AV.d (D.list 1 a2_1)]] = evFnK P hs (C k) 267 k Tryz.f267 [AV.d (D.list 1 a0), AV.agg [AV.d (D.int IntKind.i64 a1_0), AV.d (D.list 1 a1_1)], AV.agg [AV.d (D.int IntKind.i64 a2_0), AV.d (D.list 1 a2_1)]] by kernel_rfl).trans (by kernel_rfl)
theorem F269.run (k : Nat) (a0 : Ovi.Rows) (a1 : FuncId) (a1c : Ovi.Rows) : C (k + 1) 269 [AV.d (D.list 1 a0), AV.d (D.fn a1 a1c)] = bindR ((C k) 291 [AV.d (D.list 1 a0), AV.d (D.fn a1 a1c)]) fun r5 => bindI (resI IntKind.i64 1 false 1 r5 0 0) fun n6 => some ([(false, [RL.d (D.bool (decide (n6 ≥ (0 : Int))))])]) := (show C (k + 1) 269 [AV.d (D.list 1 a0), AV.d (D.fn a1 a1c)] = evFnK P hs (C k) 269 k Tryz.f269 [AV.d (D.list 1 a0), AV.d (D.fn a1 a1c)] by kernel_rfl).trans (by kernel_rfl)
theorem F270.run (k : Nat) (a0 : Ovi.Rows) (c0_0 : Ovi.Rows) : C (k + 1) 270 [AV.d (D.list 1 a0), AV.cap [D.list 1 c0_0] 0] = bindR ((C k) 236 [AV.d (D.list 1 a0), AV.d (D.list 1 c0_0)]) fun r4 => bindB (resB 1 false 1 r4 0 0) fun b5 => some ([(false, [RL.d (D.bool b5)])]) := (show C (k + 1) 270 [AV.d (D.list 1 a0), AV.cap [D.list 1 c0_0] 0] = evFnK P hs (C k) 270 k Tryz.f270 [AV.d (D.list 1 a0), AV.cap [D.list 1 c0_0] 0] by kernel_rfl).trans (by kernel_rfl)
noncomputable def F291.L2 (k : Nat) (call : CallF)  (n : Nat) (v0 : Ovi.Rows) (v1 : FuncId) (v2 : Ovi.Rows) (v3 : Int) (v4 : Int) : Option Res := loopFn P hs call 291 k Tryz.f291 [1, 0, 1, 0] [] n [(0, AV.d (D.list 1 v0)), (1, AV.d (D.fn v1 v2)), (7, AV.d (D.int IntKind.i64 v3)), (8, AV.d (D.int IntKind.i64 v4))] []
theorem F291.L2.succ (k : Nat) (call : CallF)  (n : Nat) (v0 : Ovi.Rows) (v1 : FuncId) (v2 : Ovi.Rows) (v3 : Int) (v4 : Int) : F291.L2 k call  (n + 1) v0 v1 v2 v3 v4 = ite' (decide (v4 < v3)) (ite' (inR v4 (List.length v0)) (bindL (cellL 1 v0 v4.toNat 0) fun l11 => bindR (call v1 (AV.d (D.list 1 l11) :: [].append (List.map (fun (c : List D) => AV.cap c 0) v2))) fun r12 => bindB (resB 1 false 1 r12 0 0) fun b13 => ite' (b13) (some ([(false, [RL.d (D.int IntKind.i64 v4)])])) (F291.L2 k call  (n) (v0) (v1) (v2) (v3) (IntKind.i64.wrap (v4 + (1 : Int))))) (none)) (some ([(false, [RL.d (D.int IntKind.i64 (-1 : Int))])])) := by kernel_rfl
theorem F291.run (k : Nat) (a0 : Ovi.Rows) (a1 : FuncId) (a1c : Ovi.Rows) : C (k + 1) 291 [AV.d (D.list 1 a0), AV.d (D.fn a1 a1c)] = F291.L2 k (C k)  (k) (a0) (a1) (a1c) ((↑(List.length a0) : Int)) ((0 : Int)) := (show C (k + 1) 291 [AV.d (D.list 1 a0), AV.d (D.fn a1 a1c)] = evFnK P hs (C k) 291 k Tryz.f291 [AV.d (D.list 1 a0), AV.d (D.fn a1 a1c)] by kernel_rfl).trans (by kernel_rfl)

end Go.Proofs.YthicohakeljdcaaGreat.Q

/-! UGa -/
namespace Ovi
open Go
theorem resF_s (e sz d : Nat) (l : Rows) : resF e sz d 1 false 1 [(false, [.frow e sz d l])] 0 0 = some l := by simp [resF, leafD]
end Ovi
namespace Go.Proofs.YthicohakeljdcaaGreat.Q
open Go Ovi
/-- laws.toIntS -/
theorem l57 {k : Nat} (hk : 2000000 ≤ k) {a : Ovi.Rows} (ha : Fit (.list [.int .i64]) (.list 1 a)) (hs : szR a ≤ 1048576) : ∀ (m i n : Nat) (v : Ovi.Rows), Filled a v i 1 → i + m = a.length → m < n → F57.L3 k (C k) n a (i : Int) v = some [(false, [.row 3 1 a])] := by
  have hlen := ha.len
  intro m; induction m with
  | zero =>
    intro i n v hv hm hn
    obtain ⟨n, rfl⟩ : ∃ j, n = j + 1 := ⟨n - 1, by omega⟩
    obtain rfl : i = a.length := by omega
    rw [F57.L3.succ, ite'_f (lt_f (by omega)), hv.done]
  | succ m ih =>
    intro i n v hv hm hn
    obtain ⟨n, rfl⟩ : ∃ j, n = j + 1 := ⟨n - 1, by omega⟩
    obtain ⟨row, hr, hfr, hdr⟩ := ha.row (i := i) (by omega)
    obtain ⟨d0, rr0, rfl, hd0, hfr0⟩ := Fits.cons hfr
    obtain ⟨x0, rfl, wx0⟩ := hd0.int
    obtain rfl := Fits.nil hfr0
    have hst := hv.step hr rfl
    have hvl := hv.1
    have hszr := szR_at hr
    rw [F57.L3.succ, ite'_t (lt_t (by omega)), ite'_t (inR_t (by omega))]
    simp only [Int.toNat_natCast, cellI_at hr, cellB_at hr, cellS_at hr, cellL_at hr]
    simp only [List.getElem?_cons_zero, List.getElem?_cons_succ, Option.bind_some, asI_s, asB_s, asS_s, asL_s, bindI_s, bindB_s, bindS_s, bindL_s, bindR_s, resI_s, resB_s, resS_s, resO_s, resF_s, bne_self_eq_false, beq_self_eq_true, Bool.not_true]
    rw [ite'_t (inR_t (by omega)), wrap_succ (m := a.length) (by omega) (by omega) hlen]
    rw [show ((i : Int) + 1) = ((i + 1 : Nat) : Int) by omega]
    exact ih (i + 1) n _ hst (by omega) (by omega)
theorem c57 {k : Nat} (hk : 2000001 ≤ k) {a : Ovi.Rows} (ha : Fit (.list [.int .i64]) (.list 1 a)) (hs : szD (.list 1 a) ≤ 1048576) : C k 57 [.d (.list 1 a)] = some [(false, [.row 3 1 a])] := by
  obtain ⟨k, rfl⟩ : ∃ j, k = j + 1 := ⟨k - 1, by omega⟩
  simp only [szD] at hs
  rw [F57.run, ite'_t (beq_t _), ite'_t (inM_t (by omega))]
  exact l57 (k := k) (by omega) ha (by omega) a.length 0 k _ (Filled.start a _) (by omega) (by omega)
/-- laws.eqIntS -/
theorem l60 {k : Nat} (hk : 2000000 ≤ k) {a : Ovi.Rows} (ha : Fit (.list [.int .i64]) (.list 1 a)) (hs : szR a ≤ 1048576) : ∀ (m i n : Nat), i + m = a.length → m < n → F60.L4 k (C k) n a a (i : Int) = some [(false, [.d (.bool true)])] := by
  have hlen := ha.len
  intro m; induction m with
  | zero =>
    intro i n hm hn
    obtain ⟨n, rfl⟩ : ∃ j, n = j + 1 := ⟨n - 1, by omega⟩
    rw [F60.L4.succ, ite'_f (lt_f (by omega))]
  | succ m ih =>
    intro i n hm hn
    obtain ⟨n, rfl⟩ : ∃ j, n = j + 1 := ⟨n - 1, by omega⟩
    obtain ⟨row, hr, hfr, hdr⟩ := ha.row (i := i) (by omega)
    obtain ⟨d0, rr0, rfl, hd0, hfr0⟩ := Fits.cons hfr
    obtain ⟨x0, rfl, wx0⟩ := hd0.int
    obtain rfl := Fits.nil hfr0
    have hszr := szR_at hr
    rw [F60.L4.succ, ite'_t (lt_t (by omega)), ite'_t (inR_t (by omega))]
    simp only [Int.toNat_natCast, cellI_at hr, cellB_at hr, cellS_at hr, cellL_at hr]
    simp only [List.getElem?_cons_zero, List.getElem?_cons_succ, Option.bind_some, asI_s, asB_s, asS_s, asL_s, bindI_s, bindB_s, bindS_s, bindL_s, bindR_s, resI_s, resB_s, resS_s, resO_s, resF_s, bne_self_eq_false, beq_self_eq_true, Bool.not_true]
    rw [ite'_t (inR_t (by omega))]
    rw [ite'_f rfl, wrap_succ (m := a.length) (by omega) (by omega) hlen]
    rw [show ((i : Int) + 1) = ((i + 1 : Nat) : Int) by omega]
    exact ih (i + 1) n (by omega) (by omega)
theorem c60 {k : Nat} (hk : 2000001 ≤ k) {a : Ovi.Rows} (ha : Fit (.list [.int .i64]) (.list 1 a)) (hs : szD (.list 1 a) ≤ 1048576) : C k 60 [.d (.list 1 a), .d (.list 1 a)] = some [(false, [.d (.bool true)])] := by
  obtain ⟨k, rfl⟩ : ∃ j, k = j + 1 := ⟨k - 1, by omega⟩
  simp only [szD] at hs
  rw [F60.run, ite'_f (bne_f _)]
  exact l60 (k := k) (by omega) ha (by omega) a.length 0 k (by omega) (by omega)
/-- laws.szRelation -/
theorem c86 {k : Nat} (hk : 2000001 ≤ k) {a0 : List UInt8} (ha0 : a0.length ≤ maxLen) {a1 : Int} {a2 : Bool} {left : Int} (h0 : 0 ≤ left) (h1 : left ≤ 1048576) : C k 86 [.agg [.d (.str a0), .d (.int .i64 a1), .d (.bool a2)], .d (.int .i64 left)] = some [(false, [.d (.int .i64 (szT left (szC [.str a0, .int .i64 a1, .bool a2])))])] := by
  obtain ⟨k, rfl⟩ : ∃ j, k = j + 1 := ⟨k - 1, by omega⟩
  have eT : szC [.str a0, .int .i64 a1, .bool a2] = ((a0.length : Nat)) := by simp only [szC, szD] <;> omega
  rw [eT, F86.run]
  unfold maxLen at ha0
  rw [wrap_id (n := left - (a0.length : Int)) (by omega) (by omega)]
  rcases szT_cases (left) ((a0.length : Nat)) with ⟨q0, e0⟩ | ⟨q0, e0⟩
  rotate_left
  · rw [ite'_t (by simp only [decide_eq_true_eq]; omega)] <;> first | rfl | rw [szT_neg (by omega)]
  rw [ite'_f (neg_f (by omega))] <;> first | rfl | (rw [szT_pos (by omega)] <;> (congr 6 <;> omega))
/-- laws.szIntS -/
theorem c87 {k : Nat} (hk : 2000001 ≤ k) {a : Ovi.Rows} (ha : Fit (.list [.int .i64]) (.list 1 a)) {left : Int} (h0 : 0 ≤ left) (h1 : left ≤ 1048576) : C k 87 [.d (.list 1 a), .d (.int .i64 left)] = some [(false, [.d (.int .i64 (szT left (szD (.list 1 a))))])] := by
  obtain ⟨k, rfl⟩ : ∃ j, k = j + 1 := ⟨k - 1, by omega⟩
  have hlen := ha.len; unfold maxLen at hlen
  have hz : szR a = 0 := by
    clear hlen h0 h1
    induction a with
    | nil => rfl
    | cons r rs ih =>
      simp only [Fit, List.length_cons, List.mem_cons, forall_eq_or_imp] at ha
      obtain ⟨q1, q2, hfr, q4⟩ := ha
      obtain ⟨d0, rr0, rfl, hd0, hfr0⟩ := Fits.cons hfr
      obtain ⟨x0, rfl, wx0⟩ := hd0.int
      obtain rfl := Fits.nil hfr0
      simp only [szR, szC, szD]
      rw [ih (by simp only [Fit]; exact ⟨q1, by omega, q4⟩)]
  rw [F87.run, wrap_id (by omega) (by omega)]
  simp only [szD, hz, Nat.add_zero]
  rcases szT_cases left a.length with ⟨q, e⟩ | ⟨q, e⟩ <;> rw [e]
  · rw [ite'_f (neg_f (by omega))]
  · rw [ite'_t (by simp only [decide_eq_true_eq]; omega)]
/-- laws.toRelation -/
theorem F93x0 {a0 : List UInt8} {a1 : Int} {a2 : Bool} : resS 1 true 3 [(true, [.d (.str a0), .d (.int .i64 a1), .d (.bool a2)])] 0 0 = some a0 := rfl
theorem F93x1 {a0 : List UInt8} {a1 : Int} {a2 : Bool} : resI .i64 1 true 3 [(true, [.d (.str a0), .d (.int .i64 a1), .d (.bool a2)])] 0 1 = some a1 := rfl
theorem F93x2 {a0 : List UInt8} {a1 : Int} {a2 : Bool} : resB 1 true 3 [(true, [.d (.str a0), .d (.int .i64 a1), .d (.bool a2)])] 0 2 = some a2 := rfl
theorem c93 {k : Nat} (hk : 2000001 ≤ k) {a0 : List UInt8} (ha0 : a0.length ≤ maxLen) {a1 : Int} {a2 : Bool}  : C k 93 [.agg [.d (.str a0), .d (.int .i64 a1), .d (.bool a2)]] = some [(true, [.d (.str a0), .d (.int .i64 a1), .d (.bool a2)])] := by
  obtain ⟨k, rfl⟩ : ∃ j, k = j + 1 := ⟨k - 1, by omega⟩
  rw [F93.run]
/-- laws.eqRelation -/
theorem c101 {k : Nat} (hk : 2000001 ≤ k) {a0 : List UInt8} (ha0 : a0.length ≤ maxLen) {a1 : Int} {a2 : Bool}  : C k 101 [.agg [.d (.str a0), .d (.int .i64 a1), .d (.bool a2)], .agg [.d (.str a0), .d (.int .i64 a1), .d (.bool a2)]] = some [(false, [.d (.bool true)])] := by
  obtain ⟨k, rfl⟩ : ∃ j, k = j + 1 := ⟨k - 1, by omega⟩
  rw [F101.run]
  simp only [List.getElem?_cons_zero, List.getElem?_cons_succ, Option.bind_some, asI_s, asB_s, asS_s, asL_s, bindI_s, bindB_s, bindS_s, bindL_s, bindR_s, resI_s, resB_s, resS_s, resO_s, resF_s, bne_self_eq_false, beq_self_eq_true, Bool.not_true]
  rfl
/-- laws.szRelationS -/
theorem l21 {k : Nat} (hk : 2000001 ≤ k) {a : Ovi.Rows} (ha : Fit (.list [.str, .int .i64, .bool]) (.list 3 a)) : ∀ (m i n : Nat) (left : Int), 0 ≤ left → left ≤ 1048576 → i + m = a.length → m < n → F21.L5 k (C k) n a left (i : Int) = some [(false, [.d (.int .i64 (szT left (szR (a.drop i))))])] := by
  have hlen := ha.len
  intro m; induction m with
  | zero =>
    intro i n left h0 h1 hm hn
    obtain ⟨n, rfl⟩ : ∃ j, n = j + 1 := ⟨n - 1, by omega⟩
    rw [F21.L5.succ, ite'_f (lt_f (by omega)), List.drop_eq_nil_of_le (by omega)]
    simp only [szR, szT_pos (left := left) (s := 0) (by omega)]
    simp
  | succ m ih =>
    intro i n left h0 h1 hm hn
    obtain ⟨n, rfl⟩ : ∃ j, n = j + 1 := ⟨n - 1, by omega⟩
    obtain ⟨row, hr, hfr, hdr⟩ := ha.row (i := i) (by omega)
    obtain ⟨d0, rr0, rfl, hd0, hfr0⟩ := Fits.cons hfr
    obtain ⟨x0, rfl, hx0⟩ := hd0.str
    obtain ⟨d1, rr1, rfl, hd1, hfr1⟩ := Fits.cons hfr0
    obtain ⟨x1, rfl, wx1⟩ := hd1.int
    obtain ⟨d2, rr2, rfl, hd2, hfr2⟩ := Fits.cons hfr1
    obtain ⟨x2, rfl⟩ := hd2.bool
    obtain rfl := Fits.nil hfr2
    have eR : szR (a.drop i) = szC [.str x0, .int .i64 x1, .bool x2] + szR (a.drop (i + 1)) := by rw [hdr]; rfl
    rw [F21.L5.succ, ite'_t (lt_t (by omega)), ite'_t (inR_t (by omega)), eR]
    simp only [Int.toNat_natCast, cellI_at hr, cellB_at hr, cellS_at hr, cellL_at hr]
    simp only [List.getElem?_cons_zero, List.getElem?_cons_succ, Option.bind_some, asI_s, asB_s, asS_s, asL_s, bindI_s, bindB_s, bindS_s, bindL_s, bindR_s, resI_s, resB_s, resS_s, resO_s, resF_s, bne_self_eq_false, beq_self_eq_true, Bool.not_true]
    have cc := c86 (k := k) (by omega) (a1 := x1) (a2 := x2) hx0 h0 h1
    rw [cc]
    simp only [List.getElem?_cons_zero, List.getElem?_cons_succ, Option.bind_some, asI_s, asB_s, asS_s, asL_s, bindI_s, bindB_s, bindS_s, bindL_s, bindR_s, resI_s, resB_s, resS_s, resO_s, resF_s, bne_self_eq_false, beq_self_eq_true, Bool.not_true]
    rcases szT_cases left (szC [.str x0, .int .i64 x1, .bool x2]) with ⟨q, e⟩ | ⟨q, e⟩ <;> rw [e]
    · rw [ite'_f (neg_f (by omega)), wrap_succ (m := a.length) (by omega) (by omega) hlen]
      have := ih (i + 1) n (left - ((szC [.str x0, .int .i64 x1, .bool x2] : Nat) : Int)) (by omega) (by omega) (by omega) (by omega)
      rw [show ((i : Int) + 1) = ((i + 1 : Nat) : Int) by omega, this]
      rcases szT_cases (left - ((szC [.str x0, .int .i64 x1, .bool x2] : Nat) : Int)) (szR (a.drop (i + 1))) with ⟨q2, e2⟩ | ⟨q2, e2⟩ <;> rw [e2]
      · rw [szT_pos (by omega)] <;> (congr 6 <;> omega)
      · rw [szT_neg (by omega)]
    · rw [ite'_t neg_t, szT_neg (by omega)]
theorem c21 {k : Nat} (hk : 2000002 ≤ k) {a : Ovi.Rows} (ha : Fit (.list [.str, .int .i64, .bool]) (.list 3 a)) {left : Int} (h0 : 0 ≤ left) (h1 : left ≤ 1048576) : C k 21 [.d (.list 3 a), .d (.int .i64 left)] = some [(false, [.d (.int .i64 (szT left (szD (.list 3 a))))])] := by
  obtain ⟨k, rfl⟩ : ∃ j, k = j + 1 := ⟨k - 1, by omega⟩
  have hlen := ha.len; unfold maxLen at hlen
  rw [F21.run, wrap_id (by omega) (by omega)]
  have eD : szD (.list 3 a) = a.length + szR a := by simp only [szD]
  rw [eD]
  rcases szT_cases left a.length with ⟨q, e⟩ | ⟨q, e⟩
  · rw [ite'_f (neg_f (by omega))]
    have := l21 (k := k) (by omega) ha a.length 0 k (left - (a.length : Int)) (by omega) (by omega) (by omega) (by omega)
    rw [List.drop_zero] at this
    rw [show ((0 : Int)) = ((0 : Nat) : Int) by rfl, this]
    rcases szT_cases (left - (a.length : Int)) (szR a) with ⟨q2, e2⟩ | ⟨q2, e2⟩ <;> rw [e2]
    · rw [szT_pos (by omega)] <;> (congr 6 <;> omega)
    · rw [szT_neg (by omega)]
  · rw [ite'_t (by simp only [decide_eq_true_eq]; omega), szT_neg (by omega)]
/-- laws.toRelationS -/
theorem l24 {k : Nat} (hk : 2000001 ≤ k) {a : Ovi.Rows} (ha : Fit (.list [.str, .int .i64, .bool]) (.list 3 a)) (hs : szR a ≤ 1048576) : ∀ (m i n : Nat) (v : Ovi.Rows), Filled a v i 3 → i + m = a.length → m < n → F24.L3 k (C k) n a (i : Int) v = some [(false, [.row 133 3 a])] := by
  have hlen := ha.len
  intro m; induction m with
  | zero =>
    intro i n v hv hm hn
    obtain ⟨n, rfl⟩ : ∃ j, n = j + 1 := ⟨n - 1, by omega⟩
    obtain rfl : i = a.length := by omega
    rw [F24.L3.succ, ite'_f (lt_f (by omega)), hv.done]
  | succ m ih =>
    intro i n v hv hm hn
    obtain ⟨n, rfl⟩ : ∃ j, n = j + 1 := ⟨n - 1, by omega⟩
    obtain ⟨row, hr, hfr, hdr⟩ := ha.row (i := i) (by omega)
    obtain ⟨d0, rr0, rfl, hd0, hfr0⟩ := Fits.cons hfr
    obtain ⟨x0, rfl, hx0⟩ := hd0.str
    obtain ⟨d1, rr1, rfl, hd1, hfr1⟩ := Fits.cons hfr0
    obtain ⟨x1, rfl, wx1⟩ := hd1.int
    obtain ⟨d2, rr2, rfl, hd2, hfr2⟩ := Fits.cons hfr1
    obtain ⟨x2, rfl⟩ := hd2.bool
    obtain rfl := Fits.nil hfr2
    have hst := hv.step hr rfl
    have hvl := hv.1
    have hszr := szR_at hr
    rw [F24.L3.succ, ite'_t (lt_t (by omega)), ite'_t (inR_t (by omega))]
    simp only [Int.toNat_natCast, cellI_at hr, cellB_at hr, cellS_at hr, cellL_at hr]
    simp only [List.getElem?_cons_zero, List.getElem?_cons_succ, Option.bind_some, asI_s, asB_s, asS_s, asL_s, bindI_s, bindB_s, bindS_s, bindL_s, bindR_s, resI_s, resB_s, resS_s, resO_s, resF_s, bne_self_eq_false, beq_self_eq_true, Bool.not_true]
    rw [c93 (k := k) (by omega) (a1 := x1) (a2 := x2) hx0 ]
    simp only [List.getElem?_cons_zero, List.getElem?_cons_succ, Option.bind_some, asI_s, asB_s, asS_s, asL_s, bindI_s, bindB_s, bindS_s, bindL_s, bindR_s, resI_s, resB_s, resS_s, resO_s, resF_s, bne_self_eq_false, beq_self_eq_true, Bool.not_true]
    simp only [F93x0, F93x1, F93x2]
    simp only [List.getElem?_cons_zero, List.getElem?_cons_succ, Option.bind_some, asI_s, asB_s, asS_s, asL_s, bindI_s, bindB_s, bindS_s, bindL_s, bindR_s, resI_s, resB_s, resS_s, resO_s, resF_s, bne_self_eq_false, beq_self_eq_true, Bool.not_true]
    rw [ite'_t (inR_t (by omega)), wrap_succ (m := a.length) (by omega) (by omega) hlen]
    rw [show ((i : Int) + 1) = ((i + 1 : Nat) : Int) by omega]
    exact ih (i + 1) n _ hst (by omega) (by omega)
theorem c24 {k : Nat} (hk : 2000002 ≤ k) {a : Ovi.Rows} (ha : Fit (.list [.str, .int .i64, .bool]) (.list 3 a)) (hs : szD (.list 3 a) ≤ 1048576) : C k 24 [.d (.list 3 a)] = some [(false, [.row 133 3 a])] := by
  obtain ⟨k, rfl⟩ : ∃ j, k = j + 1 := ⟨k - 1, by omega⟩
  simp only [szD] at hs
  rw [F24.run, ite'_t (beq_t _), ite'_t (inM_t (by omega))]
  exact l24 (k := k) (by omega) ha (by omega) a.length 0 k _ (Filled.start a _) (by omega) (by omega)
/-- laws.eqRelationS -/
theorem l27 {k : Nat} (hk : 2000001 ≤ k) {a : Ovi.Rows} (ha : Fit (.list [.str, .int .i64, .bool]) (.list 3 a)) (hs : szR a ≤ 1048576) : ∀ (m i n : Nat), i + m = a.length → m < n → F27.L4 k (C k) n a a (i : Int) = some [(false, [.d (.bool true)])] := by
  have hlen := ha.len
  intro m; induction m with
  | zero =>
    intro i n hm hn
    obtain ⟨n, rfl⟩ : ∃ j, n = j + 1 := ⟨n - 1, by omega⟩
    rw [F27.L4.succ, ite'_f (lt_f (by omega))]
  | succ m ih =>
    intro i n hm hn
    obtain ⟨n, rfl⟩ : ∃ j, n = j + 1 := ⟨n - 1, by omega⟩
    obtain ⟨row, hr, hfr, hdr⟩ := ha.row (i := i) (by omega)
    obtain ⟨d0, rr0, rfl, hd0, hfr0⟩ := Fits.cons hfr
    obtain ⟨x0, rfl, hx0⟩ := hd0.str
    obtain ⟨d1, rr1, rfl, hd1, hfr1⟩ := Fits.cons hfr0
    obtain ⟨x1, rfl, wx1⟩ := hd1.int
    obtain ⟨d2, rr2, rfl, hd2, hfr2⟩ := Fits.cons hfr1
    obtain ⟨x2, rfl⟩ := hd2.bool
    obtain rfl := Fits.nil hfr2
    have hszr := szR_at hr
    rw [F27.L4.succ, ite'_t (lt_t (by omega)), ite'_t (inR_t (by omega))]
    simp only [Int.toNat_natCast, cellI_at hr, cellB_at hr, cellS_at hr, cellL_at hr]
    simp only [List.getElem?_cons_zero, List.getElem?_cons_succ, Option.bind_some, asI_s, asB_s, asS_s, asL_s, bindI_s, bindB_s, bindS_s, bindL_s, bindR_s, resI_s, resB_s, resS_s, resO_s, resF_s, bne_self_eq_false, beq_self_eq_true, Bool.not_true]
    rw [ite'_t (inR_t (by omega))]
    rw [c101 (k := k) (by omega) (a1 := x1) (a2 := x2) hx0 ]
    simp only [List.getElem?_cons_zero, List.getElem?_cons_succ, Option.bind_some, asI_s, asB_s, asS_s, asL_s, bindI_s, bindB_s, bindS_s, bindL_s, bindR_s, resI_s, resB_s, resS_s, resO_s, resF_s, bne_self_eq_false, beq_self_eq_true, Bool.not_true]
    rw [ite'_f rfl, wrap_succ (m := a.length) (by omega) (by omega) hlen]
    rw [show ((i : Int) + 1) = ((i + 1 : Nat) : Int) by omega]
    exact ih (i + 1) n (by omega) (by omega)
theorem c27 {k : Nat} (hk : 2000002 ≤ k) {a : Ovi.Rows} (ha : Fit (.list [.str, .int .i64, .bool]) (.list 3 a)) (hs : szD (.list 3 a) ≤ 1048576) : C k 27 [.d (.list 3 a), .d (.list 3 a)] = some [(false, [.d (.bool true)])] := by
  obtain ⟨k, rfl⟩ : ∃ j, k = j + 1 := ⟨k - 1, by omega⟩
  simp only [szD] at hs
  rw [F27.run, ite'_f (bne_f _)]
  exact l27 (k := k) (by omega) ha (by omega) a.length 0 k (by omega) (by omega)
/-- laws.szFact -/
theorem c142 {k : Nat} (hk : 2000002 ≤ k) {a0 : Int} {a1 : Ovi.Rows} (ha1 : Fit (.list [.int .i64]) (.list 1 a1)) {left : Int} (h0 : 0 ≤ left) (h1 : left ≤ 1048576) : C k 142 [.agg [.d (.int .i64 a0), .d (.list 1 a1)], .d (.int .i64 left)] = some [(false, [.d (.int .i64 (szT left (szC [.int .i64 a0, .list 1 a1])))])] := by
  obtain ⟨k, rfl⟩ : ∃ j, k = j + 1 := ⟨k - 1, by omega⟩
  have eT : szC [.int .i64 a0, .list 1 a1] = (szD (.list 1 a1)) := by simp only [szC, szD] <;> omega
  rw [eT, F142.run]
  rw [c87 (k := k) (by omega)  ha1 (left := left) (by omega) (by omega)]
  simp only [List.getElem?_cons_zero, List.getElem?_cons_succ, Option.bind_some, asI_s, asB_s, asS_s, asL_s, bindI_s, bindB_s, bindS_s, bindL_s, bindR_s, resI_s, resB_s, resS_s, resO_s, resF_s, bne_self_eq_false, beq_self_eq_true, Bool.not_true]
  rcases szT_cases (left) (szD (.list 1 a1)) with ⟨q0, e0⟩ | ⟨q0, e0⟩ <;> rw [e0]
  rotate_left
  · rw [ite'_t (by simp only [decide_eq_true_eq]; omega)] <;> first | rfl | rw [szT_neg (by omega)]
  rw [ite'_f (neg_f (by omega))] <;> first | rfl | (rw [szT_pos (by omega)] <;> (congr 6 <;> omega))
/-- laws.toFact -/
theorem F150x0 {a0 : Int} {a1 : Ovi.Rows} : resI .i64 1 true 2 [(true, [.d (.int .i64 a0), .row 3 1 a1])] 0 0 = some a0 := rfl
theorem F150x1 {a0 : Int} {a1 : Ovi.Rows} : resO 3 1 1 true 2 [(true, [.d (.int .i64 a0), .row 3 1 a1])] 0 1 = some a1 := rfl
theorem c150 {k : Nat} (hk : 2000002 ≤ k) {a0 : Int} {a1 : Ovi.Rows} (ha1 : Fit (.list [.int .i64]) (.list 1 a1)) (s1 : szD (.list 1 a1) ≤ 1048576) : C k 150 [.agg [.d (.int .i64 a0), .d (.list 1 a1)]] = some [(true, [.d (.int .i64 a0), .row 3 1 a1])] := by
  obtain ⟨k, rfl⟩ : ∃ j, k = j + 1 := ⟨k - 1, by omega⟩
  rw [F150.run]
  rw [c57 (k := k) (by omega)  ha1 s1]
  simp only [List.getElem?_cons_zero, List.getElem?_cons_succ, Option.bind_some, asI_s, asB_s, asS_s, asL_s, bindI_s, bindB_s, bindS_s, bindL_s, bindR_s, resI_s, resB_s, resS_s, resO_s, resF_s, bne_self_eq_false, beq_self_eq_true, Bool.not_true]
/-- laws.eqFact -/
theorem c153 {k : Nat} (hk : 2000002 ≤ k) {a0 : Int} {a1 : Ovi.Rows} (ha1 : Fit (.list [.int .i64]) (.list 1 a1)) (s1 : szD (.list 1 a1) ≤ 1048576) : C k 153 [.agg [.d (.int .i64 a0), .d (.list 1 a1)], .agg [.d (.int .i64 a0), .d (.list 1 a1)]] = some [(false, [.d (.bool true)])] := by
  obtain ⟨k, rfl⟩ : ∃ j, k = j + 1 := ⟨k - 1, by omega⟩
  rw [F153.run]
  rw [c60 (k := k) (by omega)  ha1 s1]
  simp only [List.getElem?_cons_zero, List.getElem?_cons_succ, Option.bind_some, asI_s, asB_s, asS_s, asL_s, bindI_s, bindB_s, bindS_s, bindL_s, bindR_s, resI_s, resB_s, resS_s, resO_s, resF_s, bne_self_eq_false, beq_self_eq_true, Bool.not_true]
  rfl
/-- laws.szAtom -/
theorem c154 {k : Nat} (hk : 2000002 ≤ k) {a0 : Int} {a1 : Ovi.Rows} (ha1 : Fit (.list [.int .i64]) (.list 1 a1)) {left : Int} (h0 : 0 ≤ left) (h1 : left ≤ 1048576) : C k 154 [.agg [.d (.int .i64 a0), .d (.list 1 a1)], .d (.int .i64 left)] = some [(false, [.d (.int .i64 (szT left (szC [.int .i64 a0, .list 1 a1])))])] := by
  obtain ⟨k, rfl⟩ : ∃ j, k = j + 1 := ⟨k - 1, by omega⟩
  have eT : szC [.int .i64 a0, .list 1 a1] = (szD (.list 1 a1)) := by simp only [szC, szD] <;> omega
  rw [eT, F154.run]
  rw [c87 (k := k) (by omega)  ha1 (left := left) (by omega) (by omega)]
  simp only [List.getElem?_cons_zero, List.getElem?_cons_succ, Option.bind_some, asI_s, asB_s, asS_s, asL_s, bindI_s, bindB_s, bindS_s, bindL_s, bindR_s, resI_s, resB_s, resS_s, resO_s, resF_s, bne_self_eq_false, beq_self_eq_true, Bool.not_true]
  rcases szT_cases (left) (szD (.list 1 a1)) with ⟨q0, e0⟩ | ⟨q0, e0⟩ <;> rw [e0]
  rotate_left
  · rw [ite'_t (by simp only [decide_eq_true_eq]; omega)] <;> first | rfl | rw [szT_neg (by omega)]
  rw [ite'_f (neg_f (by omega))] <;> first | rfl | (rw [szT_pos (by omega)] <;> (congr 6 <;> omega))
/-- laws.toAtom -/
theorem F160x0 {a0 : Int} {a1 : Ovi.Rows} : resI .i64 1 true 2 [(true, [.d (.int .i64 a0), .row 3 1 a1])] 0 0 = some a0 := rfl
theorem F160x1 {a0 : Int} {a1 : Ovi.Rows} : resO 3 1 1 true 2 [(true, [.d (.int .i64 a0), .row 3 1 a1])] 0 1 = some a1 := rfl
theorem c160 {k : Nat} (hk : 2000002 ≤ k) {a0 : Int} {a1 : Ovi.Rows} (ha1 : Fit (.list [.int .i64]) (.list 1 a1)) (s1 : szD (.list 1 a1) ≤ 1048576) : C k 160 [.agg [.d (.int .i64 a0), .d (.list 1 a1)]] = some [(true, [.d (.int .i64 a0), .row 3 1 a1])] := by
  obtain ⟨k, rfl⟩ : ∃ j, k = j + 1 := ⟨k - 1, by omega⟩
  rw [F160.run]
  rw [c57 (k := k) (by omega)  ha1 s1]
  simp only [List.getElem?_cons_zero, List.getElem?_cons_succ, Option.bind_some, asI_s, asB_s, asS_s, asL_s, bindI_s, bindB_s, bindS_s, bindL_s, bindR_s, resI_s, resB_s, resS_s, resO_s, resF_s, bne_self_eq_false, beq_self_eq_true, Bool.not_true]
/-- laws.eqAtom -/
theorem c175 {k : Nat} (hk : 2000002 ≤ k) {a0 : Int} {a1 : Ovi.Rows} (ha1 : Fit (.list [.int .i64]) (.list 1 a1)) (s1 : szD (.list 1 a1) ≤ 1048576) : C k 175 [.agg [.d (.int .i64 a0), .d (.list 1 a1)], .agg [.d (.int .i64 a0), .d (.list 1 a1)]] = some [(false, [.d (.bool true)])] := by
  obtain ⟨k, rfl⟩ : ∃ j, k = j + 1 := ⟨k - 1, by omega⟩
  rw [F175.run]
  rw [c60 (k := k) (by omega)  ha1 s1]
  simp only [List.getElem?_cons_zero, List.getElem?_cons_succ, Option.bind_some, asI_s, asB_s, asS_s, asL_s, bindI_s, bindB_s, bindS_s, bindL_s, bindR_s, resI_s, resB_s, resS_s, resO_s, resF_s, bne_self_eq_false, beq_self_eq_true, Bool.not_true]
  rfl
/-- laws.szFactS -/
theorem l66 {k : Nat} (hk : 2000002 ≤ k) {a : Ovi.Rows} (ha : Fit (.list [.int .i64, .list [.int .i64]]) (.list 2 a)) : ∀ (m i n : Nat) (left : Int), 0 ≤ left → left ≤ 1048576 → i + m = a.length → m < n → F66.L5 k (C k) n a left (i : Int) = some [(false, [.d (.int .i64 (szT left (szR (a.drop i))))])] := by
  have hlen := ha.len
  intro m; induction m with
  | zero =>
    intro i n left h0 h1 hm hn
    obtain ⟨n, rfl⟩ : ∃ j, n = j + 1 := ⟨n - 1, by omega⟩
    rw [F66.L5.succ, ite'_f (lt_f (by omega)), List.drop_eq_nil_of_le (by omega)]
    simp only [szR, szT_pos (left := left) (s := 0) (by omega)]
    simp
  | succ m ih =>
    intro i n left h0 h1 hm hn
    obtain ⟨n, rfl⟩ : ∃ j, n = j + 1 := ⟨n - 1, by omega⟩
    obtain ⟨row, hr, hfr, hdr⟩ := ha.row (i := i) (by omega)
    obtain ⟨d0, rr0, rfl, hd0, hfr0⟩ := Fits.cons hfr
    obtain ⟨x0, rfl, wx0⟩ := hd0.int
    obtain ⟨d1, rr1, rfl, hd1, hfr1⟩ := Fits.cons hfr0
    obtain ⟨x1, rfl, hx1⟩ := hd1.list (n := 1) rfl
    obtain rfl := Fits.nil hfr1
    have eR : szR (a.drop i) = szC [.int .i64 x0, .list 1 x1] + szR (a.drop (i + 1)) := by rw [hdr]; rfl
    rw [F66.L5.succ, ite'_t (lt_t (by omega)), ite'_t (inR_t (by omega)), eR]
    simp only [Int.toNat_natCast, cellI_at hr, cellB_at hr, cellS_at hr, cellL_at hr]
    simp only [List.getElem?_cons_zero, List.getElem?_cons_succ, Option.bind_some, asI_s, asB_s, asS_s, asL_s, bindI_s, bindB_s, bindS_s, bindL_s, bindR_s, resI_s, resB_s, resS_s, resO_s, resF_s, bne_self_eq_false, beq_self_eq_true, Bool.not_true]
    have cc := c142 (k := k) (by omega) (a0 := x0) hx1 h0 h1
    rw [cc]
    simp only [List.getElem?_cons_zero, List.getElem?_cons_succ, Option.bind_some, asI_s, asB_s, asS_s, asL_s, bindI_s, bindB_s, bindS_s, bindL_s, bindR_s, resI_s, resB_s, resS_s, resO_s, resF_s, bne_self_eq_false, beq_self_eq_true, Bool.not_true]
    rcases szT_cases left (szC [.int .i64 x0, .list 1 x1]) with ⟨q, e⟩ | ⟨q, e⟩ <;> rw [e]
    · rw [ite'_f (neg_f (by omega)), wrap_succ (m := a.length) (by omega) (by omega) hlen]
      have := ih (i + 1) n (left - ((szC [.int .i64 x0, .list 1 x1] : Nat) : Int)) (by omega) (by omega) (by omega) (by omega)
      rw [show ((i : Int) + 1) = ((i + 1 : Nat) : Int) by omega, this]
      rcases szT_cases (left - ((szC [.int .i64 x0, .list 1 x1] : Nat) : Int)) (szR (a.drop (i + 1))) with ⟨q2, e2⟩ | ⟨q2, e2⟩ <;> rw [e2]
      · rw [szT_pos (by omega)] <;> (congr 6 <;> omega)
      · rw [szT_neg (by omega)]
    · rw [ite'_t neg_t, szT_neg (by omega)]
theorem c66 {k : Nat} (hk : 2000003 ≤ k) {a : Ovi.Rows} (ha : Fit (.list [.int .i64, .list [.int .i64]]) (.list 2 a)) {left : Int} (h0 : 0 ≤ left) (h1 : left ≤ 1048576) : C k 66 [.d (.list 2 a), .d (.int .i64 left)] = some [(false, [.d (.int .i64 (szT left (szD (.list 2 a))))])] := by
  obtain ⟨k, rfl⟩ : ∃ j, k = j + 1 := ⟨k - 1, by omega⟩
  have hlen := ha.len; unfold maxLen at hlen
  rw [F66.run, wrap_id (by omega) (by omega)]
  have eD : szD (.list 2 a) = a.length + szR a := by simp only [szD]
  rw [eD]
  rcases szT_cases left a.length with ⟨q, e⟩ | ⟨q, e⟩
  · rw [ite'_f (neg_f (by omega))]
    have := l66 (k := k) (by omega) ha a.length 0 k (left - (a.length : Int)) (by omega) (by omega) (by omega) (by omega)
    rw [List.drop_zero] at this
    rw [show ((0 : Int)) = ((0 : Nat) : Int) by rfl, this]
    rcases szT_cases (left - (a.length : Int)) (szR a) with ⟨q2, e2⟩ | ⟨q2, e2⟩ <;> rw [e2]
    · rw [szT_pos (by omega)] <;> (congr 6 <;> omega)
    · rw [szT_neg (by omega)]
  · rw [ite'_t (by simp only [decide_eq_true_eq]; omega), szT_neg (by omega)]
/-- laws.toFactS -/
theorem l72 {k : Nat} (hk : 2000002 ≤ k) {a : Ovi.Rows} (ha : Fit (.list [.int .i64, .list [.int .i64]]) (.list 2 a)) (hs : szR a ≤ 1048576) : ∀ (m i n : Nat) (v : Ovi.Rows), Filled a v i 2 → i + m = a.length → m < n → F72.L3 k (C k) n a (i : Int) v = some [(false, [.frow 118 2 1 a])] := by
  have hlen := ha.len
  intro m; induction m with
  | zero =>
    intro i n v hv hm hn
    obtain ⟨n, rfl⟩ : ∃ j, n = j + 1 := ⟨n - 1, by omega⟩
    obtain rfl : i = a.length := by omega
    rw [F72.L3.succ, ite'_f (lt_f (by omega)), hv.done]
  | succ m ih =>
    intro i n v hv hm hn
    obtain ⟨n, rfl⟩ : ∃ j, n = j + 1 := ⟨n - 1, by omega⟩
    obtain ⟨row, hr, hfr, hdr⟩ := ha.row (i := i) (by omega)
    obtain ⟨d0, rr0, rfl, hd0, hfr0⟩ := Fits.cons hfr
    obtain ⟨x0, rfl, wx0⟩ := hd0.int
    obtain ⟨d1, rr1, rfl, hd1, hfr1⟩ := Fits.cons hfr0
    obtain ⟨x1, rfl, hx1⟩ := hd1.list (n := 1) rfl
    obtain rfl := Fits.nil hfr1
    have hst := hv.step hr rfl
    have hvl := hv.1
    have hszr := szR_at hr
    rw [F72.L3.succ, ite'_t (lt_t (by omega)), ite'_t (inR_t (by omega))]
    simp only [Int.toNat_natCast, cellI_at hr, cellB_at hr, cellS_at hr, cellL_at hr]
    simp only [List.getElem?_cons_zero, List.getElem?_cons_succ, Option.bind_some, asI_s, asB_s, asS_s, asL_s, bindI_s, bindB_s, bindS_s, bindL_s, bindR_s, resI_s, resB_s, resS_s, resO_s, resF_s, bne_self_eq_false, beq_self_eq_true, Bool.not_true]
    rw [c150 (k := k) (by omega) (a0 := x0) hx1 (by simp only [szC, szD] at hszr ⊢; omega)]
    simp only [List.getElem?_cons_zero, List.getElem?_cons_succ, Option.bind_some, asI_s, asB_s, asS_s, asL_s, bindI_s, bindB_s, bindS_s, bindL_s, bindR_s, resI_s, resB_s, resS_s, resO_s, resF_s, bne_self_eq_false, beq_self_eq_true, Bool.not_true]
    simp only [F150x0, F150x1]
    simp only [List.getElem?_cons_zero, List.getElem?_cons_succ, Option.bind_some, asI_s, asB_s, asS_s, asL_s, bindI_s, bindB_s, bindS_s, bindL_s, bindR_s, resI_s, resB_s, resS_s, resO_s, resF_s, bne_self_eq_false, beq_self_eq_true, Bool.not_true]
    rw [ite'_t (inR_t (by omega)), wrap_succ (m := a.length) (by omega) (by omega) hlen]
    rw [show ((i : Int) + 1) = ((i + 1 : Nat) : Int) by omega]
    exact ih (i + 1) n _ hst (by omega) (by omega)
theorem c72 {k : Nat} (hk : 2000003 ≤ k) {a : Ovi.Rows} (ha : Fit (.list [.int .i64, .list [.int .i64]]) (.list 2 a)) (hs : szD (.list 2 a) ≤ 1048576) : C k 72 [.d (.list 2 a)] = some [(false, [.frow 118 2 1 a])] := by
  obtain ⟨k, rfl⟩ : ∃ j, k = j + 1 := ⟨k - 1, by omega⟩
  simp only [szD] at hs
  rw [F72.run, ite'_t (beq_t _), ite'_t (inM_t (by omega))]
  exact l72 (k := k) (by omega) ha (by omega) a.length 0 k _ (Filled.start a _) (by omega) (by omega)
/-- laws.eqFactS -/
theorem l76 {k : Nat} (hk : 2000002 ≤ k) {a : Ovi.Rows} (ha : Fit (.list [.int .i64, .list [.int .i64]]) (.list 2 a)) (hs : szR a ≤ 1048576) : ∀ (m i n : Nat), i + m = a.length → m < n → F76.L4 k (C k) n a a (i : Int) = some [(false, [.d (.bool true)])] := by
  have hlen := ha.len
  intro m; induction m with
  | zero =>
    intro i n hm hn
    obtain ⟨n, rfl⟩ : ∃ j, n = j + 1 := ⟨n - 1, by omega⟩
    rw [F76.L4.succ, ite'_f (lt_f (by omega))]
  | succ m ih =>
    intro i n hm hn
    obtain ⟨n, rfl⟩ : ∃ j, n = j + 1 := ⟨n - 1, by omega⟩
    obtain ⟨row, hr, hfr, hdr⟩ := ha.row (i := i) (by omega)
    obtain ⟨d0, rr0, rfl, hd0, hfr0⟩ := Fits.cons hfr
    obtain ⟨x0, rfl, wx0⟩ := hd0.int
    obtain ⟨d1, rr1, rfl, hd1, hfr1⟩ := Fits.cons hfr0
    obtain ⟨x1, rfl, hx1⟩ := hd1.list (n := 1) rfl
    obtain rfl := Fits.nil hfr1
    have hszr := szR_at hr
    rw [F76.L4.succ, ite'_t (lt_t (by omega)), ite'_t (inR_t (by omega))]
    simp only [Int.toNat_natCast, cellI_at hr, cellB_at hr, cellS_at hr, cellL_at hr]
    simp only [List.getElem?_cons_zero, List.getElem?_cons_succ, Option.bind_some, asI_s, asB_s, asS_s, asL_s, bindI_s, bindB_s, bindS_s, bindL_s, bindR_s, resI_s, resB_s, resS_s, resO_s, resF_s, bne_self_eq_false, beq_self_eq_true, Bool.not_true]
    rw [ite'_t (inR_t (by omega))]
    rw [c153 (k := k) (by omega) (a0 := x0) hx1 (by simp only [szC, szD] at hszr ⊢; omega)]
    simp only [List.getElem?_cons_zero, List.getElem?_cons_succ, Option.bind_some, asI_s, asB_s, asS_s, asL_s, bindI_s, bindB_s, bindS_s, bindL_s, bindR_s, resI_s, resB_s, resS_s, resO_s, resF_s, bne_self_eq_false, beq_self_eq_true, Bool.not_true]
    rw [ite'_f rfl, wrap_succ (m := a.length) (by omega) (by omega) hlen]
    rw [show ((i : Int) + 1) = ((i + 1 : Nat) : Int) by omega]
    exact ih (i + 1) n (by omega) (by omega)
theorem c76 {k : Nat} (hk : 2000003 ≤ k) {a : Ovi.Rows} (ha : Fit (.list [.int .i64, .list [.int .i64]]) (.list 2 a)) (hs : szD (.list 2 a) ≤ 1048576) : C k 76 [.d (.list 2 a), .d (.list 2 a)] = some [(false, [.d (.bool true)])] := by
  obtain ⟨k, rfl⟩ : ∃ j, k = j + 1 := ⟨k - 1, by omega⟩
  simp only [szD] at hs
  rw [F76.run, ite'_f (bne_f _)]
  exact l76 (k := k) (by omega) ha (by omega) a.length 0 k (by omega) (by omega)
/-- laws.szAtomS -/
theorem l88 {k : Nat} (hk : 2000002 ≤ k) {a : Ovi.Rows} (ha : Fit (.list [.int .i64, .list [.int .i64]]) (.list 2 a)) : ∀ (m i n : Nat) (left : Int), 0 ≤ left → left ≤ 1048576 → i + m = a.length → m < n → F88.L5 k (C k) n a left (i : Int) = some [(false, [.d (.int .i64 (szT left (szR (a.drop i))))])] := by
  have hlen := ha.len
  intro m; induction m with
  | zero =>
    intro i n left h0 h1 hm hn
    obtain ⟨n, rfl⟩ : ∃ j, n = j + 1 := ⟨n - 1, by omega⟩
    rw [F88.L5.succ, ite'_f (lt_f (by omega)), List.drop_eq_nil_of_le (by omega)]
    simp only [szR, szT_pos (left := left) (s := 0) (by omega)]
    simp
  | succ m ih =>
    intro i n left h0 h1 hm hn
    obtain ⟨n, rfl⟩ : ∃ j, n = j + 1 := ⟨n - 1, by omega⟩
    obtain ⟨row, hr, hfr, hdr⟩ := ha.row (i := i) (by omega)
    obtain ⟨d0, rr0, rfl, hd0, hfr0⟩ := Fits.cons hfr
    obtain ⟨x0, rfl, wx0⟩ := hd0.int
    obtain ⟨d1, rr1, rfl, hd1, hfr1⟩ := Fits.cons hfr0
    obtain ⟨x1, rfl, hx1⟩ := hd1.list (n := 1) rfl
    obtain rfl := Fits.nil hfr1
    have eR : szR (a.drop i) = szC [.int .i64 x0, .list 1 x1] + szR (a.drop (i + 1)) := by rw [hdr]; rfl
    rw [F88.L5.succ, ite'_t (lt_t (by omega)), ite'_t (inR_t (by omega)), eR]
    simp only [Int.toNat_natCast, cellI_at hr, cellB_at hr, cellS_at hr, cellL_at hr]
    simp only [List.getElem?_cons_zero, List.getElem?_cons_succ, Option.bind_some, asI_s, asB_s, asS_s, asL_s, bindI_s, bindB_s, bindS_s, bindL_s, bindR_s, resI_s, resB_s, resS_s, resO_s, resF_s, bne_self_eq_false, beq_self_eq_true, Bool.not_true]
    have cc := c154 (k := k) (by omega) (a0 := x0) hx1 h0 h1
    rw [cc]
    simp only [List.getElem?_cons_zero, List.getElem?_cons_succ, Option.bind_some, asI_s, asB_s, asS_s, asL_s, bindI_s, bindB_s, bindS_s, bindL_s, bindR_s, resI_s, resB_s, resS_s, resO_s, resF_s, bne_self_eq_false, beq_self_eq_true, Bool.not_true]
    rcases szT_cases left (szC [.int .i64 x0, .list 1 x1]) with ⟨q, e⟩ | ⟨q, e⟩ <;> rw [e]
    · rw [ite'_f (neg_f (by omega)), wrap_succ (m := a.length) (by omega) (by omega) hlen]
      have := ih (i + 1) n (left - ((szC [.int .i64 x0, .list 1 x1] : Nat) : Int)) (by omega) (by omega) (by omega) (by omega)
      rw [show ((i : Int) + 1) = ((i + 1 : Nat) : Int) by omega, this]
      rcases szT_cases (left - ((szC [.int .i64 x0, .list 1 x1] : Nat) : Int)) (szR (a.drop (i + 1))) with ⟨q2, e2⟩ | ⟨q2, e2⟩ <;> rw [e2]
      · rw [szT_pos (by omega)] <;> (congr 6 <;> omega)
      · rw [szT_neg (by omega)]
    · rw [ite'_t neg_t, szT_neg (by omega)]
theorem c88 {k : Nat} (hk : 2000003 ≤ k) {a : Ovi.Rows} (ha : Fit (.list [.int .i64, .list [.int .i64]]) (.list 2 a)) {left : Int} (h0 : 0 ≤ left) (h1 : left ≤ 1048576) : C k 88 [.d (.list 2 a), .d (.int .i64 left)] = some [(false, [.d (.int .i64 (szT left (szD (.list 2 a))))])] := by
  obtain ⟨k, rfl⟩ : ∃ j, k = j + 1 := ⟨k - 1, by omega⟩
  have hlen := ha.len; unfold maxLen at hlen
  rw [F88.run, wrap_id (by omega) (by omega)]
  have eD : szD (.list 2 a) = a.length + szR a := by simp only [szD]
  rw [eD]
  rcases szT_cases left a.length with ⟨q, e⟩ | ⟨q, e⟩
  · rw [ite'_f (neg_f (by omega))]
    have := l88 (k := k) (by omega) ha a.length 0 k (left - (a.length : Int)) (by omega) (by omega) (by omega) (by omega)
    rw [List.drop_zero] at this
    rw [show ((0 : Int)) = ((0 : Nat) : Int) by rfl, this]
    rcases szT_cases (left - (a.length : Int)) (szR a) with ⟨q2, e2⟩ | ⟨q2, e2⟩ <;> rw [e2]
    · rw [szT_pos (by omega)] <;> (congr 6 <;> omega)
    · rw [szT_neg (by omega)]
  · rw [ite'_t (by simp only [decide_eq_true_eq]; omega), szT_neg (by omega)]
/-- laws.toAtomS -/
theorem l94 {k : Nat} (hk : 2000002 ≤ k) {a : Ovi.Rows} (ha : Fit (.list [.int .i64, .list [.int .i64]]) (.list 2 a)) (hs : szR a ≤ 1048576) : ∀ (m i n : Nat) (v : Ovi.Rows), Filled a v i 2 → i + m = a.length → m < n → F94.L3 k (C k) n a (i : Int) v = some [(false, [.frow 130 2 1 a])] := by
  have hlen := ha.len
  intro m; induction m with
  | zero =>
    intro i n v hv hm hn
    obtain ⟨n, rfl⟩ : ∃ j, n = j + 1 := ⟨n - 1, by omega⟩
    obtain rfl : i = a.length := by omega
    rw [F94.L3.succ, ite'_f (lt_f (by omega)), hv.done]
  | succ m ih =>
    intro i n v hv hm hn
    obtain ⟨n, rfl⟩ : ∃ j, n = j + 1 := ⟨n - 1, by omega⟩
    obtain ⟨row, hr, hfr, hdr⟩ := ha.row (i := i) (by omega)
    obtain ⟨d0, rr0, rfl, hd0, hfr0⟩ := Fits.cons hfr
    obtain ⟨x0, rfl, wx0⟩ := hd0.int
    obtain ⟨d1, rr1, rfl, hd1, hfr1⟩ := Fits.cons hfr0
    obtain ⟨x1, rfl, hx1⟩ := hd1.list (n := 1) rfl
    obtain rfl := Fits.nil hfr1
    have hst := hv.step hr rfl
    have hvl := hv.1
    have hszr := szR_at hr
    rw [F94.L3.succ, ite'_t (lt_t (by omega)), ite'_t (inR_t (by omega))]
    simp only [Int.toNat_natCast, cellI_at hr, cellB_at hr, cellS_at hr, cellL_at hr]
    simp only [List.getElem?_cons_zero, List.getElem?_cons_succ, Option.bind_some, asI_s, asB_s, asS_s, asL_s, bindI_s, bindB_s, bindS_s, bindL_s, bindR_s, resI_s, resB_s, resS_s, resO_s, resF_s, bne_self_eq_false, beq_self_eq_true, Bool.not_true]
    rw [c160 (k := k) (by omega) (a0 := x0) hx1 (by simp only [szC, szD] at hszr ⊢; omega)]
    simp only [List.getElem?_cons_zero, List.getElem?_cons_succ, Option.bind_some, asI_s, asB_s, asS_s, asL_s, bindI_s, bindB_s, bindS_s, bindL_s, bindR_s, resI_s, resB_s, resS_s, resO_s, resF_s, bne_self_eq_false, beq_self_eq_true, Bool.not_true]
    simp only [F160x0, F160x1]
    simp only [List.getElem?_cons_zero, List.getElem?_cons_succ, Option.bind_some, asI_s, asB_s, asS_s, asL_s, bindI_s, bindB_s, bindS_s, bindL_s, bindR_s, resI_s, resB_s, resS_s, resO_s, resF_s, bne_self_eq_false, beq_self_eq_true, Bool.not_true]
    rw [ite'_t (inR_t (by omega)), wrap_succ (m := a.length) (by omega) (by omega) hlen]
    rw [show ((i : Int) + 1) = ((i + 1 : Nat) : Int) by omega]
    exact ih (i + 1) n _ hst (by omega) (by omega)
theorem c94 {k : Nat} (hk : 2000003 ≤ k) {a : Ovi.Rows} (ha : Fit (.list [.int .i64, .list [.int .i64]]) (.list 2 a)) (hs : szD (.list 2 a) ≤ 1048576) : C k 94 [.d (.list 2 a)] = some [(false, [.frow 130 2 1 a])] := by
  obtain ⟨k, rfl⟩ : ∃ j, k = j + 1 := ⟨k - 1, by omega⟩
  simp only [szD] at hs
  rw [F94.run, ite'_t (beq_t _), ite'_t (inM_t (by omega))]
  exact l94 (k := k) (by omega) ha (by omega) a.length 0 k _ (Filled.start a _) (by omega) (by omega)
/-- laws.eqAtomS -/
theorem l102 {k : Nat} (hk : 2000002 ≤ k) {a : Ovi.Rows} (ha : Fit (.list [.int .i64, .list [.int .i64]]) (.list 2 a)) (hs : szR a ≤ 1048576) : ∀ (m i n : Nat), i + m = a.length → m < n → F102.L4 k (C k) n a a (i : Int) = some [(false, [.d (.bool true)])] := by
  have hlen := ha.len
  intro m; induction m with
  | zero =>
    intro i n hm hn
    obtain ⟨n, rfl⟩ : ∃ j, n = j + 1 := ⟨n - 1, by omega⟩
    rw [F102.L4.succ, ite'_f (lt_f (by omega))]
  | succ m ih =>
    intro i n hm hn
    obtain ⟨n, rfl⟩ : ∃ j, n = j + 1 := ⟨n - 1, by omega⟩
    obtain ⟨row, hr, hfr, hdr⟩ := ha.row (i := i) (by omega)
    obtain ⟨d0, rr0, rfl, hd0, hfr0⟩ := Fits.cons hfr
    obtain ⟨x0, rfl, wx0⟩ := hd0.int
    obtain ⟨d1, rr1, rfl, hd1, hfr1⟩ := Fits.cons hfr0
    obtain ⟨x1, rfl, hx1⟩ := hd1.list (n := 1) rfl
    obtain rfl := Fits.nil hfr1
    have hszr := szR_at hr
    rw [F102.L4.succ, ite'_t (lt_t (by omega)), ite'_t (inR_t (by omega))]
    simp only [Int.toNat_natCast, cellI_at hr, cellB_at hr, cellS_at hr, cellL_at hr]
    simp only [List.getElem?_cons_zero, List.getElem?_cons_succ, Option.bind_some, asI_s, asB_s, asS_s, asL_s, bindI_s, bindB_s, bindS_s, bindL_s, bindR_s, resI_s, resB_s, resS_s, resO_s, resF_s, bne_self_eq_false, beq_self_eq_true, Bool.not_true]
    rw [ite'_t (inR_t (by omega))]
    rw [c175 (k := k) (by omega) (a0 := x0) hx1 (by simp only [szC, szD] at hszr ⊢; omega)]
    simp only [List.getElem?_cons_zero, List.getElem?_cons_succ, Option.bind_some, asI_s, asB_s, asS_s, asL_s, bindI_s, bindB_s, bindS_s, bindL_s, bindR_s, resI_s, resB_s, resS_s, resO_s, resF_s, bne_self_eq_false, beq_self_eq_true, Bool.not_true]
    rw [ite'_f rfl, wrap_succ (m := a.length) (by omega) (by omega) hlen]
    rw [show ((i : Int) + 1) = ((i + 1 : Nat) : Int) by omega]
    exact ih (i + 1) n (by omega) (by omega)
theorem c102 {k : Nat} (hk : 2000003 ≤ k) {a : Ovi.Rows} (ha : Fit (.list [.int .i64, .list [.int .i64]]) (.list 2 a)) (hs : szD (.list 2 a) ≤ 1048576) : C k 102 [.d (.list 2 a), .d (.list 2 a)] = some [(false, [.d (.bool true)])] := by
  obtain ⟨k, rfl⟩ : ∃ j, k = j + 1 := ⟨k - 1, by omega⟩
  simp only [szD] at hs
  rw [F102.run, ite'_f (bne_f _)]
  exact l102 (k := k) (by omega) ha (by omega) a.length 0 k (by omega) (by omega)
/-- laws.szInstance -/
theorem c12 {k : Nat} (hk : 2000004 ≤ k) {a0 : Ovi.Rows} (ha0 : Fit (.list [.str, .int .i64, .bool]) (.list 3 a0)) {a1 : Ovi.Rows} (ha1 : Fit (.list [.int .i64, .list [.int .i64]]) (.list 2 a1)) {left : Int} (h0 : 0 ≤ left) (h1 : left ≤ 1048576) : C k 12 [.agg [.d (.list 3 a0), .d (.list 2 a1)], .d (.int .i64 left)] = some [(false, [.d (.int .i64 (szT left (szC [.list 3 a0, .list 2 a1])))])] := by
  obtain ⟨k, rfl⟩ : ∃ j, k = j + 1 := ⟨k - 1, by omega⟩
  have eT : szC [.list 3 a0, .list 2 a1] = (szD (.list 3 a0)) + (szD (.list 2 a1)) := by simp only [szC, szD] <;> omega
  rw [eT, F12.run]
  rw [c21 (k := k) (by omega)  ha0 (left := left) (by omega) (by omega)]
  simp only [List.getElem?_cons_zero, List.getElem?_cons_succ, Option.bind_some, asI_s, asB_s, asS_s, asL_s, bindI_s, bindB_s, bindS_s, bindL_s, bindR_s, resI_s, resB_s, resS_s, resO_s, resF_s, bne_self_eq_false, beq_self_eq_true, Bool.not_true]
  rcases szT_cases (left) (szD (.list 3 a0)) with ⟨q0, e0⟩ | ⟨q0, e0⟩ <;> rw [e0]
  rotate_left
  · rw [ite'_t (by simp only [decide_eq_true_eq]; omega)] <;> first | rfl | rw [szT_neg (by omega)]
  rw [ite'_f (neg_f (by omega))]
  rw [c66 (k := k) (by omega)  ha1 (left := left - ((szD (.list 3 a0) : Nat) : Int)) (by omega) (by omega)]
  simp only [List.getElem?_cons_zero, List.getElem?_cons_succ, Option.bind_some, asI_s, asB_s, asS_s, asL_s, bindI_s, bindB_s, bindS_s, bindL_s, bindR_s, resI_s, resB_s, resS_s, resO_s, resF_s, bne_self_eq_false, beq_self_eq_true, Bool.not_true]
  rcases szT_cases (left - ((szD (.list 3 a0) : Nat) : Int)) (szD (.list 2 a1)) with ⟨q1, e1⟩ | ⟨q1, e1⟩ <;> rw [e1]
  rotate_left
  · rw [ite'_t (by simp only [decide_eq_true_eq]; omega)] <;> first | rfl | rw [szT_neg (by omega)]
  rw [ite'_f (neg_f (by omega))] <;> first | rfl | (rw [szT_pos (by omega)] <;> (congr 6 <;> omega))
/-- laws.toInstance -/
theorem F14x0 {a0 : Ovi.Rows} {a1 : Ovi.Rows} : resO 133 3 1 true 2 [(true, [.row 133 3 a0, .frow 118 2 1 a1])] 0 0 = some a0 := rfl
theorem F14x1 {a0 : Ovi.Rows} {a1 : Ovi.Rows} : resF 118 2 1 1 true 2 [(true, [.row 133 3 a0, .frow 118 2 1 a1])] 0 1 = some a1 := rfl
theorem c14 {k : Nat} (hk : 2000004 ≤ k) {a0 : Ovi.Rows} (ha0 : Fit (.list [.str, .int .i64, .bool]) (.list 3 a0)) {a1 : Ovi.Rows} (ha1 : Fit (.list [.int .i64, .list [.int .i64]]) (.list 2 a1)) (s0 : szD (.list 3 a0) ≤ 1048576) (s1 : szD (.list 2 a1) ≤ 1048576) : C k 14 [.agg [.d (.list 3 a0), .d (.list 2 a1)]] = some [(true, [.row 133 3 a0, .frow 118 2 1 a1])] := by
  obtain ⟨k, rfl⟩ : ∃ j, k = j + 1 := ⟨k - 1, by omega⟩
  rw [F14.run]
  rw [c24 (k := k) (by omega)  ha0 s0]
  simp only [List.getElem?_cons_zero, List.getElem?_cons_succ, Option.bind_some, asI_s, asB_s, asS_s, asL_s, bindI_s, bindB_s, bindS_s, bindL_s, bindR_s, resI_s, resB_s, resS_s, resO_s, resF_s, bne_self_eq_false, beq_self_eq_true, Bool.not_true]
  rw [c72 (k := k) (by omega)  ha1 s1]
  simp only [List.getElem?_cons_zero, List.getElem?_cons_succ, Option.bind_some, asI_s, asB_s, asS_s, asL_s, bindI_s, bindB_s, bindS_s, bindL_s, bindR_s, resI_s, resB_s, resS_s, resO_s, resF_s, bne_self_eq_false, beq_self_eq_true, Bool.not_true]
/-- laws.eqInstance -/
theorem c16 {k : Nat} (hk : 2000004 ≤ k) {a0 : Ovi.Rows} (ha0 : Fit (.list [.str, .int .i64, .bool]) (.list 3 a0)) {a1 : Ovi.Rows} (ha1 : Fit (.list [.int .i64, .list [.int .i64]]) (.list 2 a1)) (s0 : szD (.list 3 a0) ≤ 1048576) (s1 : szD (.list 2 a1) ≤ 1048576) : C k 16 [.agg [.d (.list 3 a0), .d (.list 2 a1)], .agg [.d (.list 3 a0), .d (.list 2 a1)]] = some [(false, [.d (.bool true)])] := by
  obtain ⟨k, rfl⟩ : ∃ j, k = j + 1 := ⟨k - 1, by omega⟩
  rw [F16.run]
  rw [c27 (k := k) (by omega)  ha0 s0]
  rw [c76 (k := k) (by omega)  ha1 s1]
  simp only [List.getElem?_cons_zero, List.getElem?_cons_succ, Option.bind_some, asI_s, asB_s, asS_s, asL_s, bindI_s, bindB_s, bindS_s, bindL_s, bindR_s, resI_s, resB_s, resS_s, resO_s, resF_s, bne_self_eq_false, beq_self_eq_true, Bool.not_true]
  rfl
/-- laws.szQuery -/
theorem c22 {k : Nat} (hk : 2000004 ≤ k) {a0 : Ovi.Rows} (ha0 : Fit (.list [.int .i64]) (.list 1 a0)) {a1 : Ovi.Rows} (ha1 : Fit (.list [.int .i64, .list [.int .i64]]) (.list 2 a1)) {left : Int} (h0 : 0 ≤ left) (h1 : left ≤ 1048576) : C k 22 [.agg [.d (.list 1 a0), .d (.list 2 a1)], .d (.int .i64 left)] = some [(false, [.d (.int .i64 (szT left (szC [.list 1 a0, .list 2 a1])))])] := by
  obtain ⟨k, rfl⟩ : ∃ j, k = j + 1 := ⟨k - 1, by omega⟩
  have eT : szC [.list 1 a0, .list 2 a1] = (szD (.list 1 a0)) + (szD (.list 2 a1)) := by simp only [szC, szD] <;> omega
  rw [eT, F22.run]
  rw [c87 (k := k) (by omega)  ha0 (left := left) (by omega) (by omega)]
  simp only [List.getElem?_cons_zero, List.getElem?_cons_succ, Option.bind_some, asI_s, asB_s, asS_s, asL_s, bindI_s, bindB_s, bindS_s, bindL_s, bindR_s, resI_s, resB_s, resS_s, resO_s, resF_s, bne_self_eq_false, beq_self_eq_true, Bool.not_true]
  rcases szT_cases (left) (szD (.list 1 a0)) with ⟨q0, e0⟩ | ⟨q0, e0⟩ <;> rw [e0]
  rotate_left
  · rw [ite'_t (by simp only [decide_eq_true_eq]; omega)] <;> first | rfl | rw [szT_neg (by omega)]
  rw [ite'_f (neg_f (by omega))]
  rw [c88 (k := k) (by omega)  ha1 (left := left - ((szD (.list 1 a0) : Nat) : Int)) (by omega) (by omega)]
  simp only [List.getElem?_cons_zero, List.getElem?_cons_succ, Option.bind_some, asI_s, asB_s, asS_s, asL_s, bindI_s, bindB_s, bindS_s, bindL_s, bindR_s, resI_s, resB_s, resS_s, resO_s, resF_s, bne_self_eq_false, beq_self_eq_true, Bool.not_true]
  rcases szT_cases (left - ((szD (.list 1 a0) : Nat) : Int)) (szD (.list 2 a1)) with ⟨q1, e1⟩ | ⟨q1, e1⟩ <;> rw [e1]
  rotate_left
  · rw [ite'_t (by simp only [decide_eq_true_eq]; omega)] <;> first | rfl | rw [szT_neg (by omega)]
  rw [ite'_f (neg_f (by omega))] <;> first | rfl | (rw [szT_pos (by omega)] <;> (congr 6 <;> omega))
/-- laws.toQuery -/
theorem F25x0 {a0 : Ovi.Rows} {a1 : Ovi.Rows} : resO 3 1 1 true 2 [(true, [.row 3 1 a0, .frow 130 2 1 a1])] 0 0 = some a0 := rfl
theorem F25x1 {a0 : Ovi.Rows} {a1 : Ovi.Rows} : resF 130 2 1 1 true 2 [(true, [.row 3 1 a0, .frow 130 2 1 a1])] 0 1 = some a1 := rfl
theorem c25 {k : Nat} (hk : 2000004 ≤ k) {a0 : Ovi.Rows} (ha0 : Fit (.list [.int .i64]) (.list 1 a0)) {a1 : Ovi.Rows} (ha1 : Fit (.list [.int .i64, .list [.int .i64]]) (.list 2 a1)) (s0 : szD (.list 1 a0) ≤ 1048576) (s1 : szD (.list 2 a1) ≤ 1048576) : C k 25 [.agg [.d (.list 1 a0), .d (.list 2 a1)]] = some [(true, [.row 3 1 a0, .frow 130 2 1 a1])] := by
  obtain ⟨k, rfl⟩ : ∃ j, k = j + 1 := ⟨k - 1, by omega⟩
  rw [F25.run]
  rw [c57 (k := k) (by omega)  ha0 s0]
  simp only [List.getElem?_cons_zero, List.getElem?_cons_succ, Option.bind_some, asI_s, asB_s, asS_s, asL_s, bindI_s, bindB_s, bindS_s, bindL_s, bindR_s, resI_s, resB_s, resS_s, resO_s, resF_s, bne_self_eq_false, beq_self_eq_true, Bool.not_true]
  rw [c94 (k := k) (by omega)  ha1 s1]
  simp only [List.getElem?_cons_zero, List.getElem?_cons_succ, Option.bind_some, asI_s, asB_s, asS_s, asL_s, bindI_s, bindB_s, bindS_s, bindL_s, bindR_s, resI_s, resB_s, resS_s, resO_s, resF_s, bne_self_eq_false, beq_self_eq_true, Bool.not_true]
/-- laws.eqQuery -/
theorem c28 {k : Nat} (hk : 2000004 ≤ k) {a0 : Ovi.Rows} (ha0 : Fit (.list [.int .i64]) (.list 1 a0)) {a1 : Ovi.Rows} (ha1 : Fit (.list [.int .i64, .list [.int .i64]]) (.list 2 a1)) (s0 : szD (.list 1 a0) ≤ 1048576) (s1 : szD (.list 2 a1) ≤ 1048576) : C k 28 [.agg [.d (.list 1 a0), .d (.list 2 a1)], .agg [.d (.list 1 a0), .d (.list 2 a1)]] = some [(false, [.d (.bool true)])] := by
  obtain ⟨k, rfl⟩ : ∃ j, k = j + 1 := ⟨k - 1, by omega⟩
  rw [F28.run]
  rw [c60 (k := k) (by omega)  ha0 s0]
  rw [c102 (k := k) (by omega)  ha1 s1]
  simp only [List.getElem?_cons_zero, List.getElem?_cons_succ, Option.bind_some, asI_s, asB_s, asS_s, asL_s, bindI_s, bindB_s, bindS_s, bindL_s, bindR_s, resI_s, resB_s, resS_s, resO_s, resF_s, bne_self_eq_false, beq_self_eq_true, Bool.not_true]
  rfl
end Go.Proofs.YthicohakeljdcaaGreat.Q

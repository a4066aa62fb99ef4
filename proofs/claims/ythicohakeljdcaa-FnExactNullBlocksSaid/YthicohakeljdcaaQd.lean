/-
Towards the law: a machine that runs the program's own code on plain data, its soundness, the library by its contracts, and what the functions compute: part 4 (Mkc Srg PB PF PGa PHa PIa PHb). No condition.
-/
import Derived.Test.YthicohakeljdcaaQc
import Derived.Test.YthicohakeljdcaaProg
import Derived.KernelRfl
set_option linter.unusedVariables false
set_option linter.unusedSimpArgs false
/-! Mkc -/
namespace Ovi
open Go Go.RowKit

/-! ### Marks as calls of the machine's -/
def parseM : Args → Option (List MCell)
  | [] => some []
  | .d (.int .i64 e) :: .d (.list sz xs) :: r => (parseM r).map fun l => .row e.toNat sz xs :: l
  | .d x :: r => cond x.scal ((parseM r).map fun l => .any x :: l) none
  | _ => none
theorem parseM_any {x : D} {r : Args} (hx : x.scal = true) (hr : ∀ s l r', r ≠ .d (.list s l) :: r') : parseM (.d x :: r) = (parseM r).map fun l => .any x :: l := by
  cases x with
  | int k n =>
    cases k <;> try (simp only [parseM, hx, cond_true]; done)
    cases r with
    | nil => simp [parseM, hx]
    | cons a r' =>
      cases a with
      | d y =>
        cases y with
        | list s l => exact absurd rfl (hr s l r')
        | _ => simp [parseM, D.scal]
      | _ => simp [parseM, D.scal]
  | bool b => simp [parseM, D.scal]
  | str b => simp [parseM, D.scal]
  | _ => cases hx
theorem encM_head : ∀ {cs : List MCell}, cs.all MCell.ok = true → ∀ s l r', encM cs ≠ .d (.list s l) :: r'
  | [], _, s, l, r', h => by cases h
  | .row _ _ _ :: _, _, s, l, r', h => by simp [encM] at h
  | .any x :: r, ho, s, l, r', h => by
    simp only [List.all_cons, Bool.and_eq_true] at ho
    simp only [encM, List.cons.injEq, AV.d.injEq] at h
    rw [h.1] at ho
    cases ho.1
theorem parseM_encM : ∀ {cs : List MCell}, cs.all MCell.ok = true → parseM (encM cs) = some cs
  | [], _ => rfl
  | .row e sz xs :: r, h => by
    simp only [List.all_cons, Bool.and_eq_true] at h
    simp [encM, parseM, parseM_encM h.2]
  | .any x :: r, h => by
    have h' := h
    simp only [List.all_cons, Bool.and_eq_true] at h
    simp only [encM]
    rw [parseM_any h.1 (encM_head h.2), parseM_encM h.2]
    rfl
abbrev MkC := List MCell → Int → Option (List MCell × Int)
/-- a mark function as the machine calls it; b: its argument is a struct -/
def markP (b : Bool) (mk : MkC) : Args → Option Res
  | .var 0 0 :: .d (.bool b') :: .d (.int .i64 k) :: xs => cond (b' == b && decide (0 ≤ k)) ((parseM xs).bind fun cs => (mk cs k).bind fun q => cond (decide (q.2 ≤ 4611686018427387904)) (some (encR q.1 ++ [(false, [.d (.int .i64 q.2)])])) none) none
  | _ => none
/-- what it does -/
def CellsC (P : Program) (f : FuncId) (b : Bool) (mk : MkC) : Prop :=
  ∀ (cs : List MCell) (k : Int) (cs' : List MCell) (k' : Int), cs.all MCell.ok = true → mk cs k = some (cs', k') → 0 ≤ k → k' ≤ 4611686018427387904 → LikeM cs cs' ∧
    ∀ (w : World) (T : Nat → Prop) (v : Value) (us : Array Value) (mo : Nat → Option Nat) (GG : GGs), (b = true → v = .agg us) → (b = false → us = #[v]) → us.size = cs.length →
      (∀ j x, cs[j]? = some (.any x) → mo j = none ∧ ∃ u, us[j]? = some u ∧ RD w T T u x) → RowsF w T cs us mo GG →
      (∀ j i c j' i' c' b, GG j i c b → GG j' i' c' b → j = j' ∧ i = i' ∧ c = c') → (∀ j j' b, mo j = some b → mo j' = some b → j = j') → (∀ j i c b, GG j i c b → b < w.heap.size ∧ ∀ j', mo j' ≠ some b) →
      Calls P f #[v, .int .i64 k] w fun ex w' => ex = .returned (.int .i64 k') ∧ But (Wr mo GG) w w' ∧ ∃ GG' : GGs, (∀ j i c b, GG' j i c b → ∃ i' c', GG j i' c' b) ∧ (∀ j i c i' c' b, GG' j i c b → GG' j i' c' b → i = i' ∧ c = c') ∧ RowsF w' T cs' us mo GG'
theorem markP_ok {P : Program} {G : Gd} {f : FuncId} {b : Bool} {mk : MkC} (hk : Known P f) (h : CellsC P f b mk) : PrimOk P G f (markP b mk) := by
  refine ⟨hk, fun args r hr => ?_, (fun k e sz xs rest r hr e' he => by cases hr), fun b' k xs r hr cs hcs hok => ?_⟩
  · unfold markP at hr
    split at hr
    · intro w S T vs hS hT hl
      obtain ⟨u, hu, ⟨cs, h⟩, _⟩ := hl.2 0 _ rfl
      cases h
    · cases hr
  · subst hcs
    simp only [markP, rawTag] at hr
    cases hb : (b' == b && decide (0 ≤ k)) with
    | false => rw [hb] at hr; cases hr
    | true =>
      rw [hb] at hr
      simp only [Bool.and_eq_true, beq_iff_eq, decide_eq_true_eq] at hb
      obtain ⟨rfl, hk0⟩ := hb
      simp only [cond_true, parseM_encM hok, Option.bind_some] at hr
      obtain ⟨⟨cs', k'⟩, h1, h2⟩ := Option.bind_eq_some_iff.1 hr
      cases hk' : decide (k' ≤ 4611686018427387904) with
      | false => simp only [hk'] at h2; cases h2
      | true =>
        simp only [hk', cond_true] at h2
        cases h2
        obtain ⟨q1, q2⟩ := h cs k cs' k' hok h1 hk0 (of_decide_eq_true hk')
        exact ⟨cs', k', rfl, q1, q2⟩

section
variable {w w' : World} {T : Nat → Prop} {mo : Option Nat} {e sz : Nat} {xs xs' : Rows} {u : Value} {G : Nat → Nat → Nat → Prop}
/-- what a row and its claims lie in -/
def Bof (mo : Option Nat) (G : Nat → Nat → Nat → Prop) : Nat → Prop := fun k => mo = some k ∨ ∃ i c, G i c k
theorem rowF.forest (h : rowF w T mo e sz xs u G) (hc : ∀ i c k, G i c k → mo ≠ some k) (hi : ∀ i c i' c' k, G i c k → G i' c' k → i = i' ∧ c = c') :
    RD w (Bof mo G) NT u (.list sz xs) ∧ ∃ n, depD n (.list sz xs) = true ∧ Fo n w u (.list sz xs) (Bof mo G) := by
  obtain ⟨h1, h2, h3⟩ := h
  cases mo with
  | none =>
    subst h3
    obtain ⟨_, A, rfl⟩ := h2
    exact ⟨RD.nil A sz, 0, rfl, True.intro⟩
  | some b =>
    obtain ⟨cap, cur, rfl, k2, k3, k4, k5⟩ := h2
    obtain ⟨cur', k6, k7⟩ := h3
    rw [k2] at k6
    cases k6
    refine RowG.forest (cap := cap) (e := e) (b := b) (g := G) ⟨⟨cur, k2, k5, fun i c x hx => ?_⟩, k3, h1, fun i c k hk he => hc i c k hk (by rw [he]), hi⟩ k4 (.inl rfl) (fun i c k hk => .inr ⟨i, c, hk⟩)
    obtain ⟨v, hv, hr, n, hd, hf⟩ := k7 i c x hx
    exact ⟨v, hv, hr.noFn (depD_noFn hd), n, hd, hf⟩
theorem rowF.back (h : rowF w T mo e sz xs u G) {X : Nat → Prop} (hb : But X w w') (hl : xs'.length = xs.length) (hr : RD w' (Bof mo G) NT u (.list sz xs')) (hf : ∃ n, depD n (.list sz xs') = true ∧ Fo n w' u (.list sz xs') (Bof mo G)) :
    ∃ G' : Nat → Nat → Nat → Prop, (∀ i c k, G' i c k → ∃ i' c', G i' c' k) ∧ (∀ i c i' c' k, G' i c k → G' i' c' k → i = i' ∧ c = c') ∧ rowF w' T mo e sz xs' u G' := by
  obtain ⟨h1, h2, h3⟩ := h
  obtain ⟨n, hd, hf⟩ := hf
  have own : OwnC w' mo e sz u xs'.length := by
    rw [hl]
    exact h2.mono fun b cur e hm hc => hb.kind b cur e hc
  rcases Fo.rows hd hf hr with ⟨rfl, _⟩ | ⟨b, cap, e1, g, he, hle, hcap, hB, hg, hrow⟩
  · refine ⟨fun _ _ _ => False, fun _ _ _ h => h.elim, fun _ _ _ _ _ h => h.elim, fun i x hx => by simp at hx, own, ?_⟩
    cases mo with
    | none => rfl
    | some b =>
      obtain ⟨cap, cur, _, k2, _⟩ := own
      exact ⟨cur, k2, fun i c x hx => by simp [cellD] at hx⟩
  · cases mo with
    | none =>
      have hx : xs' = [] := List.eq_nil_of_length_eq_zero (by rw [hl, h3]; rfl)
      subst hx
      exact ⟨fun _ _ _ => False, fun _ _ _ h => h.elim, fun _ _ _ _ _ h => h.elim, fun i x hx => by simp at hx, own, rfl⟩
    | some b0 =>
      obtain ⟨cap0, cur0, k1, k2, k3, k4, k5⟩ := own
      rw [he] at k1
      cases k1
      obtain ⟨cur1, p1, p2, p3⟩ := hrow.blk
      rw [k2] at p1
      cases p1
      refine ⟨g, fun i c k hk => ?_, hrow.inj, hrow.row, ⟨cap, cur0, he, k2, k3, k4, k5⟩, cur0, k2, fun i c x hx => ?_⟩
      · rcases hg i c k hk with h | h
        · cases h; exact absurd rfl (hrow.own i c _ hk)
        · exact h
      · obtain ⟨v, hv, hrv, m, hdm, hfm⟩ := p3 i c x hx
        exact ⟨v, hv, hrv.noFn (depD_noFn hdm), m, hdm, hfm⟩
end
/-- a mark of rows -/
def mkLs (sz : Nat) (mk : Rows → Int → Option (Rows × Int)) : MkC
  | [.row e sz' xs], k => cond (Nat.beq sz' sz) ((mk xs k).map fun q => ([.row e sz q.1], q.2)) none
  | _, _ => none
theorem ListC.cells {P : Program} {f : FuncId} {sz : Nat} {mk : Rows → Int → Option (Rows × Int)} (h : ListC P f sz mk) (hlen : ∀ xs k xs' k', mk xs k = some (xs', k') → xs'.length = xs.length) : CellsC P f false (mkLs sz mk) := by
  intro cs k cs' k' hok hm hk hk2
  unfold mkLs at hm
  split at hm
  · rename_i e sz' xs
    cases hs : Nat.beq sz' sz with
    | false => rw [hs] at hm; cases hm
    | true =>
      rw [hs] at hm
      obtain rfl := beq_true hs
      obtain ⟨⟨xs', k1⟩, h1, h2⟩ := Option.map_eq_some_iff.1 hm
      cases h2
      have hl := hlen _ _ _ _ h1
      refine ⟨⟨rfl, rfl, hl, True.intro⟩, fun w T v us mo GG _ hb hsz hany hrows hgd hmo hlt => ?_⟩
      obtain rfl := hb rfl
      obtain ⟨u, hu, hrow⟩ := hrows 0 e sz' xs rfl
      cases hu
      have hc : ∀ i c k, GG 0 i c k → mo 0 ≠ some k := fun i c k hg => (hlt 0 i c k hg).2 0
      have hi : ∀ i c i' c' k, GG 0 i c k → GG 0 i' c' k → i = i' ∧ c = c' := fun i c i' c' k hg hg' => (hgd _ _ _ _ _ _ _ hg hg').2
      obtain ⟨hr, n, hd, hf⟩ := hrow.forest hc hi
      have hB : ∀ b, Bof (mo 0) (GG 0) b → b < w.heap.size := fun b hb => by
        rcases hb with hb | ⟨i, c, hb⟩
        · obtain ⟨_, ho, _⟩ := hrow
          rw [hb] at ho
          obtain ⟨cap, cur, _, k2, _⟩ := ho
          exact lt_of_blk k2
        · exact (hlt 0 i c b hb).1
      refine (h w v xs (Bof (mo 0) (GG 0)) n k xs' k1 hd hf hr h1 hk hk2 hB).mono fun ex w' ⟨he, hbut, hr', hf'⟩ => ?_
      obtain ⟨G', g1, g2, g3⟩ := hrow.back hbut hl hr' hf'
      refine ⟨he, hbut.mono fun b hb => ?_, fun j => match j with | 0 => G' | _ + 1 => fun _ _ _ => False, fun j i c b hg => ?_, fun j i c i' c' b hg hg' => ?_, fun j e1 sz1 xs1 hj => ?_⟩
      · rcases hb with hb | ⟨i, c, hb⟩
        · exact .inl ⟨0, hb⟩
        · exact .inr ⟨0, i, c, hb⟩
      · cases j with
        | zero => exact g1 i c b hg
        | succ j => exact hg.elim
      · cases j with
        | zero => exact g2 i c i' c' b hg hg'
        | succ j => exact hg.elim
      · cases j with
        | zero => cases hj; exact ⟨v, rfl, g3⟩
        | succ j => simp at hj
  · cases hm
def CellF (w : World) (B : Nat → Prop) (u : Value) (x : D) : Prop := RD w B NT u x ∧ ∃ n, depD n x = true ∧ Fo n w u x B
theorem CellF.but {w w' : World} {B X : Nat → Prop} {u : Value} {x : D} (h : CellF w B u x) (hb : But X w w') (hlt : ∀ k, B k → k < w.heap.size) (hX : ∀ k, B k → ¬ X k) : CellF w' B u x := by
  have hst : ∀ k, B k → w'.heap[k]? = w.heap[k]? := fun k hk => hb.block k (hlt k hk) (hX k hk)
  obtain ⟨hr, n, hd, hf⟩ := h
  exact ⟨hr.mono hst (fun k hk => hk.elim) (fun _ h => h) (fun _ h => h), n, hd, hf.stab hst fun _ h => h⟩
theorem CellF.sub {w : World} {B B' : Nat → Prop} {u : Value} {x : D} (h : CellF w B u x) (hB : ∀ k, B k → B' k) : CellF w B' u x :=
  let ⟨hr, n, hd, hf⟩ := h; ⟨hr.mono (Stab.refl _ _) (Stab.refl _ _) hB fun _ h => h, n, hd, hf.stab (fun _ _ => rfl) hB⟩
theorem alloc_cell (w : World) (cs : Array Value) (t : TypeId) {i : Nat} {v : Value} (h : cs[i]? = some v) : (w.alloc (.cells cs t (0, 0))).cell? ⟨w.heap.size, i, none⟩ = some v := by
  have hg : (w.alloc (.cells cs t (0, 0))).heap[w.heap.size]? = some (.cells cs t (0, 0)) := by
    show (w.heap.push _)[w.heap.size]? = _
    simp
  simp only [World.cell?, hg, Option.isSome_none, Bool.false_eq_true, if_false]
  exact h
theorem But.cell {w w' : World} {X : Nat → Prop} {b off : Nat} {u : Value} (hb : But X w w') (hX : ¬ X b) (h : w.cell? ⟨b, off, none⟩ = some u) : w'.cell? ⟨b, off, none⟩ = some u := by
  have hlt : b < w.heap.size := by
    unfold World.cell? at h
    split at h
    · rename_i hq; exact (Array.getElem?_eq_some_iff.1 hq).1
    · cases h
  rw [← h]
  exact World.cell?_of_block (hb.block b hlt hX)
/-- a mark of a struct's cells -/
def AggC (P : Program) (f : FuncId) (mk : Step1) : Prop :=
  ∀ (w : World) (us : Array Value) (ds : List D) (G : Nat → Nat → Prop) (k : Int) (ds' : List D) (k' : Int), us.size = ds.length → (∀ (c : Nat) x, ds[c]? = some x → ∃ u, us[c]? = some u ∧ RD w (G c) NT u x ∧ ∃ n, depD n x = true ∧ Fo n w u x (G c)) →
    (∀ c c' k, G c k → G c' k → c = c') → (∀ c b, G c b → b < w.heap.size) → mk ds k = some (ds', k') → 0 ≤ k → k' ≤ 4611686018427387904 →
    Calls P f #[.agg us, .int .i64 k] w fun ex w' => ex = .returned (.int .i64 k') ∧ But (fun b => ∃ c, G c b) w w' ∧ ∀ (c : Nat) x, ds'[c]? = some x → ∃ u, us[c]? = some u ∧ RD w' (G c) NT u x ∧ ∃ n, depD n x = true ∧ Fo n w' u x (G c)
def toD : MCell → D
  | .row _ sz xs => .list sz xs
  | .any x => x
def ofD : List MCell → List D → List MCell
  | .row e _ _ :: r, .list sz xs :: ds => .row e sz xs :: ofD r ds
  | .any _ :: r, x :: ds => .any x :: ofD r ds
  | _, _ => []
/-- the same shape -/
def LikeD : List MCell → List D → Prop
  | [], [] => True
  | .row _ sz xs :: r, .list sz' xs' :: ds => sz' = sz ∧ xs'.length = xs.length ∧ LikeD r ds
  | .any x :: r, y :: ds => y = x ∧ LikeD r ds
  | _, _ => False
theorem LikeD.like : ∀ {cs : List MCell} {ds : List D}, LikeD cs ds → LikeM cs (ofD cs ds)
  | [], [], _ => True.intro
  | [], _ :: _, h => h.elim
  | .row _ _ _ :: r, [], h => h.elim
  | .any _ :: r, [], h => h.elim
  | .row e sz xs :: r, .list sz' xs' :: ds, h => ⟨rfl, h.1, h.2.1, h.2.2.like⟩
  | .row e sz xs :: r, .int _ _ :: ds, h => h.elim
  | .row e sz xs :: r, .bool _ :: ds, h => h.elim
  | .row e sz xs :: r, .str _ :: ds, h => h.elim
  | .row e sz xs :: r, .fn _ _ :: ds, h => h.elim
  | .any x :: r, y :: ds, h => ⟨h.1, h.2.like⟩
theorem LikeD.at : ∀ {cs : List MCell} {ds : List D} {j e sz : Nat} {xs : Rows}, LikeD cs ds → (ofD cs ds)[j]? = some (MCell.row e sz xs) → ∃ ys, cs[j]? = some (MCell.row e sz ys) ∧ ds[j]? = some (.list sz xs) ∧ xs.length = ys.length
  | [], [], j, e, sz, xs, _, h => by simp [ofD] at h
  | [], _ :: _, j, e, sz, xs, h, _ => h.elim
  | .row _ _ _ :: r, [], j, e, sz, xs, h, _ => h.elim
  | .any _ :: r, [], j, e, sz, xs, h, _ => h.elim
  | .row e0 sz0 xs0 :: r, .list sz' xs' :: ds, j, e, sz, xs, h, hj => by
    cases j with
    | zero =>
      simp only [ofD, List.getElem?_cons_zero, Option.some.injEq, MCell.row.injEq] at hj
      obtain ⟨rfl, rfl, rfl⟩ := hj
      exact ⟨xs0, by rw [h.1]; rfl, rfl, h.2.1⟩
    | succ j => exact LikeD.at (cs := r) (ds := ds) h.2.2 (by simpa [ofD] using hj)
  | .row e0 sz0 xs0 :: r, .int _ _ :: ds, j, e, sz, xs, h, _ => h.elim
  | .row e0 sz0 xs0 :: r, .bool _ :: ds, j, e, sz, xs, h, _ => h.elim
  | .row e0 sz0 xs0 :: r, .str _ :: ds, j, e, sz, xs, h, _ => h.elim
  | .row e0 sz0 xs0 :: r, .fn _ _ :: ds, j, e, sz, xs, h, _ => h.elim
  | .any x :: r, y :: ds, j, e, sz, xs, h, hj => by
    cases j with
    | zero => simp [ofD] at hj
    | succ j => exact LikeD.at (cs := r) (ds := ds) h.2 (by simpa [ofD] using hj)
def mkAg (mk : Step1) : MkC := fun cs k => (mk (cs.map toD) k).map fun q => (ofD cs q.1, q.2)
theorem AggC.cells {P : Program} {f : FuncId} {mk : Step1} (h : AggC P f mk) (hlike : ∀ cs k ds' k', cs.all MCell.ok = true → mk (cs.map toD) k = some (ds', k') → LikeD cs ds') : CellsC P f true (mkAg mk) := by
  intro cs k cs' k' hok hm hk hk2
  obtain ⟨⟨ds', k1⟩, h1, h2⟩ := Option.map_eq_some_iff.1 hm
  cases h2
  have hlk := hlike _ _ _ _ hok h1
  refine ⟨hlk.like, fun w T v us mo GG hb _ hsz hany hrows hgd hmo hlt => ?_⟩
  obtain rfl := hb rfl
  have hcl : ∀ j i c k, GG j i c k → mo j ≠ some k := fun j i c k hg => (hlt j i c k hg).2 j
  have hin : ∀ j i c i' c' k, GG j i c k → GG j i' c' k → i = i' ∧ c = c' := fun j i c i' c' k hg hg' => (hgd _ _ _ _ _ _ _ hg hg').2
  have hrowlt : ∀ j b, mo j = some b → (∃ e sz xs, cs[j]? = some (MCell.row e sz xs)) → b < w.heap.size := fun j b hm ⟨e, sz, xs, hj⟩ => by
    obtain ⟨u, _, _, ho, _⟩ := hrows j e sz xs hj
    rw [hm] at ho
    obtain ⟨cap, cur, _, k2, _⟩ := ho
    exact lt_of_blk k2
  refine (h w us (cs.map toD) (fun c k => (∃ e sz xs, cs[c]? = some (MCell.row e sz xs)) ∧ Bof (mo c) (GG c) k) k ds' k1 (by simp [hsz]) (fun c x hx => ?_) (fun c c' k hg hg' => ?_) (fun c b hg => ?_) h1 hk hk2).mono fun ex w' ⟨he, hbut, hr'⟩ => ?_
  · rw [List.getElem?_map] at hx
    obtain ⟨y, hy, rfl⟩ := Option.map_eq_some_iff.1 hx
    cases y with
    | row e sz xs =>
      obtain ⟨u, hu, hrow⟩ := hrows c e sz xs hy
      obtain ⟨q1, n, q2, q3⟩ := hrow.forest (hcl c) (hin c)
      exact ⟨u, hu, q1.mono (Stab.refl _ _) (Stab.refl _ _) (fun k hk => ⟨⟨e, sz, xs, hy⟩, hk⟩) (fun _ h => h), n, q2, q3.stab (fun _ _ => rfl) fun k hk => ⟨⟨e, sz, xs, hy⟩, hk⟩⟩
    | any x =>
      obtain ⟨_, u, hu, hr⟩ := hany c x hy
      have hsc : x.scal = true := List.all_eq_true.1 hok _ (List.mem_of_getElem? hy)
      refine ⟨u, hu, ?_, 0, ?_, True.intro⟩
      · show RD w _ NT u x
        cases x with
        | int k n => cases hr; exact .int k n
        | bool b => cases hr; exact .bool b
        | str b =>
          generalize hs : D.str b = X at hr
          cases hr with
          | str b' => exact RD.str b'
          | _ => cases hs
        | _ => cases hsc
      · show depD 0 x = true
        cases x <;> first | rfl | cases hsc
  · obtain ⟨_, hg⟩ := hg
    obtain ⟨_, hg'⟩ := hg'
    rcases hg with hg | ⟨i, a, hg⟩ <;> rcases hg' with hg' | ⟨i', a', hg'⟩
    · exact hmo c c' k hg hg'
    · exact absurd hg ((hlt c' i' a' k hg').2 c)
    · exact absurd hg' ((hlt c i a k hg).2 c')
    · exact (hgd _ _ _ _ _ _ _ hg hg').1
  · obtain ⟨hrw, hg⟩ := hg
    rcases hg with hg | ⟨i, a, hg⟩
    · exact hrowlt c b hg hrw
    · exact (hlt c i a b hg).1
  · -- each row comes back
    have hex : ∀ j : Nat, ∃ G' : Nat → Nat → Nat → Prop, (∀ i c b, G' i c b → ∃ i' c', GG j i' c' b) ∧ (∀ i c i' c' b, G' i c b → G' i' c' b → i = i' ∧ c = c') ∧ ∀ e sz xs, (ofD cs ds')[j]? = some (MCell.row e sz xs) → ∃ u, us[j]? = some u ∧ rowF w' T (mo j) e sz xs u G' := by
      intro j
      by_cases hjr : ∃ e sz xs, (ofD cs ds')[j]? = some (MCell.row e sz xs)
      · obtain ⟨e, sz, xs, hj⟩ := hjr
        obtain ⟨ys, k1, k2, k3⟩ := hlk.at hj
        obtain ⟨u, hu, hrow⟩ := hrows j e sz ys k1
        obtain ⟨u', hu', hr, n, hd, hf⟩ := hr' j _ k2
        rw [hu] at hu'
        cases hu'
        obtain ⟨G', g1, g2, g3⟩ := hrow.back hbut k3 (hr.mono (Stab.refl _ _) (Stab.refl _ _) (fun k hk => hk.2) fun _ h => h) ⟨n, hd, hf.stab (fun _ _ => rfl) fun k hk => hk.2⟩
        exact ⟨G', g1, g2, fun e' sz' xs' hj' => by rw [hj] at hj'; cases hj'; exact ⟨u, hu, g3⟩⟩
      · exact ⟨fun _ _ _ => False, fun _ _ _ h => h.elim, fun _ _ _ _ _ h => h.elim, fun e sz xs hj => absurd ⟨e, sz, xs, hj⟩ hjr⟩
    obtain ⟨GG', hGG⟩ := Classical.axiomOfChoice hex
    refine ⟨he, hbut.mono fun b ⟨c, _, hb⟩ => ?_, GG', fun j => (hGG j).1, fun j => (hGG j).2.1, fun j e sz xs hj => (hGG j).2.2 e sz xs hj⟩
    rcases hb with hb | ⟨i, a, hb⟩
    · exact .inl ⟨c, hb⟩
    · exact .inr ⟨c, i, a, hb⟩
end Ovi

/-! Srg -/
namespace Ovi
open Go Go.Proofs Go.RowKit Go.Sort Go.Lib
/-! ### slices.SortFunc on rows of integer lists whose lists are one's own: what an element holds goes with it -/
theorem perm_idx {α : Type} {l' l : List α} (h : l'.Perm l) : ∃ π : Nat → Nat, (∀ i i', i < l'.length → i' < l'.length → π i = π i' → i = i') ∧ ∀ i, i < l'.length → l'[i]? = l[π i]? ∧ π i < l.length := by
  induction h with
  | nil => exact ⟨fun i => i, fun i i' h => by simp at h, fun i h => by simp at h⟩
  | cons x h ih =>
    obtain ⟨π, h1, h2⟩ := ih
    refine ⟨fun i => match i with | 0 => 0 | i + 1 => π i + 1, fun i i' hi hi' he => ?_, fun i hi => ?_⟩
    · match i, i' with
      | 0, 0 => rfl
      | 0, i' + 1 => simp at he
      | i + 1, 0 => simp at he
      | i + 1, i' + 1 =>
        simp only [Nat.add_right_cancel_iff] at he
        rw [h1 i i' (by simpa using hi) (by simpa using hi') he]
    · match i with
      | 0 => simp
      | i + 1 =>
        have := h2 i (by simpa using hi)
        simpa using this
  | swap x y l =>
    refine ⟨fun i => match i with | 0 => 1 | 1 => 0 | i + 2 => i + 2, fun i i' hi hi' he => ?_, fun i hi => ?_⟩
    · match i, i' with
      | 0, 0 => rfl
      | 1, 1 => rfl
      | 0, 1 => simp at he
      | 1, 0 => simp at he
      | 0, i' + 2 => simp at he
      | 1, i' + 2 => simp at he
      | i + 2, 0 => simp at he
      | i + 2, 1 => simp at he
      | i + 2, i' + 2 => simpa using he
    · match i with
      | 0 => simp
      | 1 => simp
      | i + 2 => exact ⟨rfl, by simpa using hi⟩
  | trans h1 h2 ih1 ih2 =>
    obtain ⟨π, a1, a2⟩ := ih1
    obtain ⟨ρ, b1, b2⟩ := ih2
    refine ⟨fun i => ρ (π i), fun i i' hi hi' he => a1 i i' hi hi' (b1 _ _ (a2 i hi).2 (a2 i' hi').2 he), fun i hi => ?_⟩
    obtain ⟨e1, e2⟩ := a2 i hi
    obtain ⟨e3, e4⟩ := b2 _ e2
    exact ⟨e1.trans e3, e4⟩
def sortGP (g : Nat) (args : Args) : Option Res := (sortFArg g args).bind fun p => some [(false, [.frow p.1 1 1 (LL (sortLists p.2))])]
theorem sortG_sound {P : Program} {G : Gd} {fs g : FuncId} (h : SortFC P fs g) {args : Args} {r : Res} (hr : sortGP g args = some r) : PlainC P G fs args r ∧ ∀ k e sz xs rest, args = rawTag :: .d (.int k e) :: .d (.list sz xs) :: rest → ∀ e' : Nat, e = e' → RawC P fs e' sz xs rest r := by
  obtain ⟨⟨e0, l⟩, hra, hr⟩ := Option.bind_eq_some_iff.1 hr
  cases hr
  refine ⟨?_, fun k e sz xs rest hargs e' he => ?_⟩
  · obtain ⟨_, _, rfl⟩ := sortFArg_isRaw hra
    exact plain_raw'
  · subst hargs
    obtain ⟨rfl, rfl, rfl, h4, hlen, hlz⟩ := sortFArg_some hra
    simp only at h4 hlen hlz
    subst he h4
    intro w S T mo u vs hS hT hrow hl
    have hvs : vs = #[.func (.func g) #[] #[]] := by
      obtain ⟨u0, hu0, hrd⟩ := hl.2 0 _ rfl
      have hrd : RD w S T u0 (.fn g []) := hrd
      have h1 : vs.size = 1 := hl.1
      have h2 : u0 = .func (.func g) #[] #[] := by
        generalize hc : ([] : Rows) = CS at hrd
        cases hrd with
        | fn f vs' caps g' k1 k4 k5 =>
          subst hc
          rw [Array.eq_empty_of_size_eq_zero k1]
      subst h2
      apply Array.ext_getElem?
      intro i
      cases i with
      | zero => rw [hu0]; rfl
      | succ i => rw [Array.getElem?_eq_none (by omega), Array.getElem?_eq_none (by simp)]
    subst hvs
    simp only [Int.toNat_natCast]
    have hsl := sortLists_len l
    cases mo with
    | none =>
      obtain ⟨_, ⟨_, A, rfl⟩, hn⟩ := hrow
      have hz : l = [] := by simpa [LL] using hn
      subst hz
      refine (h.nil A w).mono fun ex w' ⟨h1, h2⟩ => ⟨_, h1, h2, fun _ => ⟨⟨by simp [LL, sortLists], rfl, ?_⟩, fun b cur cur' hb => by cases hb⟩⟩
      refine ⟨fun i x hx => by simp [LL, sortLists] at hx, ⟨by simp [LL, sortLists], A, rfl⟩, by simp [LL, sortLists]⟩
    | some b =>
      obtain ⟨_, ⟨cap, cur, rfl, hc, h1, h2, h3⟩, _, hnS, cur', hc', h5, h6⟩ := hrow
      rw [LL_len] at *
      rw [hc] at hc'
      cases hc'
      have hblk : b < w.heap.size := lt_of_blk hc
      obtain ⟨dl, hd1, hdl⟩ := mkH (w := w) (S := S) (cur := cur) l 0 fun i zs hz => by
        obtain ⟨_, v, hv, hrd⟩ := h6 i 0 _ (LL_at hz)
        rw [Nat.mul_one, Nat.add_zero] at hv
        exact ⟨v, by rw [Nat.zero_add]; exact hv, RD.ri hrd, hlz _ (List.mem_of_getElem? hz)⟩
      obtain ⟨d, rfl⟩ : ∃ d : Array (HdL w S), dl = d.toList := ⟨dl.toArray, rfl⟩
      have hd2 : Holds encH w b 0 d := by
        intro j hj
        rw [getElem!_pos d j hj]
        refine ⟨?_, by simp [World.frozen?, hc]⟩
        simp only [World.cell?, hc, Option.isSome_none, Bool.false_eq_true, if_false]
        exact hdl j _ (by simp [hj])
      have hds : d.size = l.length := by rw [← hd1]; simp
      have hcall := h.run w S b cap d hS hnS hd2 hblk (by omega)
      rw [hds] at hcall
      refine hcall.mono fun ex w' ⟨k1, d', n, os, ⟨p1, _, p3⟩, k3, k4⟩ => ?_
      subst k4
      have hds' : d'.size = l.length := by rw [p1, hds]
      have hext : ∀ (a : Array (HdL w S)) (m : Nat), a.size = m → a.extract 0 m = a := fun a m hm => by subst hm; exact Array.extract_size
      rw [hext d' _ hds', hext d _ hds] at p3
      have hys : d'.toList.map lstH = sortLists l := by
        refine srt_unique (by rw [← hd1]; exact p3.map _) ?_
        rw [List.pairwise_map, List.pairwise_iff_getElem]
        intro i j hi hj hij
        have hi' : i < d'.size := by simpa using hi
        have hj' : j < d'.size := by simpa using hj
        have := k3 i j (Nat.zero_le _) hij (by omega)
        rw [getElem!_pos d' j hj', getElem!_pos d' i hi'] at this
        exact this
      have hnew := heapS (enc := encH) (n := n) (os := os) d' hc
      have hcsz : (putCells encH 0 d' cur).size = cur.size := by simp [putCells]
      have hst := stabS (enc := encH) (n := n) (os := os) d' hS hnS
      refine ⟨_, k1, ⟨cur, _, hc, hcsz, rfl, rfl, rfl, by simp [sortWorld, grow, putRow, mapBlock, Sort.ahead, setBlk], fun k hk => ?_⟩, fun _ => ⟨⟨by rw [LL_len, LL_len, hsl], rfl, LL_rows _, ?_, Nat.zero_le _, hnS, _, hnew, by rw [LL_len, hsl, hcsz]; omega, fun i c x hx => ?_⟩, ?_⟩⟩
      · have hk : k < w.heap.size := by simpa using hk
        by_cases hkb : k = b
        · subst hkb
          rw [setBlk_at hblk, hnew]
        · rw [setBlk_ne hkb]
          exact heapO _ hk hkb
      · rw [LL_len, hsl]
        exact ⟨cap, _, rfl, hnew, h1, h2, by rw [hcsz]; omega⟩
      · obtain ⟨rfl, zs, hz, rfl⟩ := LL_cell hx
        have hi : i < d'.size := by
          have := (List.getElem?_eq_some_iff.1 hz).1
          omega
        refine ⟨rfl, encH d'[i], ?_, ?_⟩
        · have h5' : l.length * 1 ≤ cur.size := h5
          have hic : i < cur.size := by omega
          simp only [Nat.mul_one, Nat.add_zero, putCells, Array.getElem?_mapIdx]
          rw [Array.getElem?_eq_getElem hic]
          simp [hi]
        · have : lstH d'[i] = zs := by
            rw [← hys] at hz
            simpa [hi] using hz
          rw [← this]
          exact RI.rd (RI.stab d'[i].h hst)
      · intro b1 c1 c2 hb1 hc1 hc2
        cases hb1
        rw [hc] at hc1
        cases hc1
        rw [hnew] at hc2
        cases hc2
        obtain ⟨π, q1, q2⟩ := perm_idx p3
        rw [LL_len, hsl]
        refine ⟨π, fun i i' hi hi' => q1 i i' (by simpa [hds'] using hi) (by simpa [hds'] using hi'), fun i hi c x hx => ?_⟩
        obtain ⟨rfl, zs, hz, rfl⟩ := LL_cell hx
        have hi2 : i < d'.size := by omega
        obtain ⟨e1, e2⟩ := q2 i (by simpa using hi2)
        have hp2 : π i < d.size := by simpa using e2
        have e3 : d'[i] = d[π i] := by simpa [hi2, hp2] using e1
        have e4 : lstH d'[i] = zs := by
          rw [← hys] at hz
          simpa [hi2] using hz
        have e5 : l[π i]? = some zs := by
          rw [← hd1, List.getElem?_map, Array.getElem?_toList, Array.getElem?_eq_getElem hp2, Option.map_some, ← e3, e4]
        refine ⟨LL_at e5, .inl ?_⟩
        have g1 := hdl (π i) d[π i] (by simp [hp2])
        have h5' : l.length * 1 ≤ cur.size := h5
        have hic : i < cur.size := by omega
        rw [Nat.zero_add] at g1
        simp only [Nat.mul_one, Nat.add_zero, putCells, Array.getElem?_mapIdx]
        rw [Array.getElem?_eq_getElem hic, g1]
        simp [hi2, e3]
theorem SortFC.okG {P : Program} {G : Gd} {f g : FuncId} (h : SortFC P f g) : PrimOk P G f (sortGP g) := ⟨h.known, (fun args r hr => (sortG_sound h hr).1), (fun k e sz xs rest r hr e' he => (sortG_sound (G := noG) h hr).2 k e sz xs rest rfl e' he), fun b k xs r hr => by first | (cases hr; done) | (unfold sortGP at hr; (first | (cases hr; done) | (split at hr <;> cases hr; done) | (cases xs <;> cases hr; done) | (simp at hr; done)))⟩
end Ovi

/-! PB -/
namespace Go.Proofs.Ythicohakeljdcaa.Q
open Go Ovi
noncomputable abbrev P := Try.prog
def sg : FuncId → Sig := fun f => match f with
  | 3 => [(false, [.bool])]
  | 4 => [(false, [.bool])]
  | 5 => [(false, [.bool])]
  | 6 => [(false, [.int .i64])]
  | 7 => [(true, [.xown 86 3 0, .xown 58 2 1]), (false, [.bool])]
  | 8 => [(true, [.own 86 3, .fown 58 2 1])]
  | 9 => [(false, [.own 3 1])]
  | 10 => [(true, [.xown 86 3 0, .ro 2]), (false, [.bool])]
  | 11 => [(false, [.bool])]
  | 12 => [(false, [.bool])]
  | 13 => [(false, [.int .i64])]
  | 14 => [(false, [.int .i64])]
  | 15 => [(false, [.int .i64])]
  | 16 => [(true, [.xown 86 3 0, .xown 58 2 1, .xown 101 3 1]), (false, [.bool])]
  | 17 => [(true, [.xown 86 3 0, .xown 58 2 1, .xown 101 3 1]), (false, [.bool])]
  | 18 => [(false, [.bool])]
  | 19 => [(false, [.int .i64])]
  | 20 => [(false, [.int .i64])]
  | 21 => [(false, [.xown 26 1 1])]
  | 22 => [(false, [.xown 26 1 1])]
  | 23 => [(false, [.bool])]
  | 24 => [(false, [.int .i64])]
  | 25 => [(false, [.int .i64])]
  | 26 => [(false, [.int .i64])]
  | 27 => [(false, [.int .i64])]
  | 28 => [(false, [.bool])]
  | 29 => [(false, [.ro 1])]
  | 30 => [(false, [.bool])]
  | 31 => [(true, [.int .i64, .own 3 1])]
  | 32 => [(false, [.own 86 3])]
  | 33 => [(false, [.fown 58 2 1])]
  | 34 => [(false, [.bool])]
  | 35 => [(true, [.own 86 3, .fown 58 2 1])]
  | 36 => [(false, [.ro 2])]
  | 37 => [(false, [.bool])]
  | 38 => [(false, [.bool])]
  | 39 => [(false, [.bool])]
  | 40 => [(false, [.bool])]
  | 41 => [(false, [.int .i64])]
  | 42 => [(false, [.int .i64])]
  | 43 => [(false, [.int .i64])]
  | 44 => [(false, [.int .i64])]
  | 45 => [(false, [.bool])]
  | 46 => [(true, [.own 86 3, .fown 58 2 1])]
  | 47 => [(false, [.bool])]
  | 48 => [(false, [.bool])]
  | 49 => [(false, [.int .i64])]
  | 50 => [(false, [.int .i64])]
  | 51 => [(false, [.ro 1])]
  | 52 => [(false, [.own 3 1])]
  | 53 => [(false, [.bool])]
  | 54 => [(false, [.bool])]
  | 55 => [(false, [.bool])]
  | 56 => [(true, [])]
  | 57 => [(true, []), (true, [])]
  | 58 => [(true, []), (false, [])]
  | 59 => [(false, [.int .i64])]
  | 60 => [(false, [.int .i64])]
  | 61 => [(false, [.int .i64])]
  | 62 => [(false, [.int .i64])]
  | 63 => [(false, [.bool])]
  | 64 => [(false, [.int .i64])]
  | 65 => [(false, [.bool])]
  | 66 => [(false, [.int .i64]), (false, [.bool])]
  | 67 => [(false, [.ro 1])]
  | 68 => [(true, [.str, .int .i64, .bool])]
  | 69 => [(true, [.int .i64, .own 3 1])]
  | 70 => [(false, [.bool])]
  | 71 => [(false, [.bool])]
  | 72 => [(false, [.int .i64])]
  | 73 => [(false, [.own 86 3])]
  | 74 => [(false, [.fown 58 2 1])]
  | 75 => [(false, [.int .i64])]
  | 76 => [(false, [.bool])]
  | 77 => [(false, [.bool])]
  | 78 => [(false, [.bool])]
  | 79 => [(false, [.str])]
  | 80 => [(false, [.own 3 1])]
  | 81 => [(false, [.bool])]
  | 82 => [(false, [.own 3 1])]
  | 83 => [(false, [.int .i64])]
  | 84 => [(false, [.int .i64])]
  | 85 => []
  | 86 => [(false, [.int .i64])]
  | 87 => []
  | 88 => [(false, [.int .i64])]
  | 89 => [(false, [.int .i64])]
  | 90 => [(false, [.bool])]
  | 91 => [(false, [.bool])]
  | 92 => [(false, [.int .i64])]
  | 93 => [(false, [.bool])]
  | 94 => [(false, [.bool])]
  | 95 => [(false, [.bool])]
  | 96 => [(false, [.bool])]
  | 97 => [(false, [.bool])]
  | 98 => [(false, [.int .i64])]
  | 99 => [(true, [.int .i64, .own 3 1])]
  | 100 => [(false, [.int .i64]), (false, [.bool])]
  | 101 => []
  | 102 => []
  | 103 => []
  | 104 => [(false, [.int .i64]), (false, [.int .i64])]
  | 105 => []
  | 106 => [(false, [.bool])]
  | 107 => [(false, [.bool])]
  | 108 => [(false, [.int .i64])]
  | 109 => [(false, [.int .i64]), (false, [.bool])]
  | 110 => [(false, [.int .i64])]
  | 111 => [(false, [.int .i64])]
  | 112 => []
  | 113 => []
  | 114 => []
  | 115 => [(false, [.int .i64]), (false, [.int .i64])]
  | 116 => []
  | 117 => [(false, [.bool])]
  | 118 => [(false, [.int .i64])]
  | 119 => [(false, [.int .i64]), (false, [.bool])]
  | 120 => [(false, [.bool])]
  | 121 => [(false, [.own 3 1])]
  | 122 => []
  | 123 => [(false, [.int .u64])]
  | 124 => [(false, [.int .u64])]
  | 125 => [(false, [.int .i64])]
  | 126 => [(false, [.int .i64])]
  | 127 => []
  | 128 => [(false, [.int .i64])]
  | 129 => [(false, [.int .i64])]
  | 130 => [(false, [.int .i64]), (false, [.int .i64])]
  | 131 => [(false, [.int .i64]), (false, [.int .i64])]
  | _ => []
def lp : FuncId → Nat → LoopHint := fun f l => match f, l with
  | 7, 5 => [(1, .same), (2, .box [.same, .same]), (4, .box [.own 86 3, .fow 58 2 1]), (6, .box [.own 86 3, .fow 58 2 1]), (7, .same)]
  | 7, 10 => [(1, .same), (2, .box [.same, .same]), (4, .box [.own 86 3, .fow 58 2 1]), (6, .box [.own 86 3, .fow 58 2 1]), (7, .same), (8, .same), (9, .same), (10, .same)]
  | 9, 3 => [(0, .same), (3, .own 3 1), (4, .same)]
  | 12, 4 => [(0, .same), (1, .same), (5, .same)]
  | 14, 2 => [(0, .same), (1, .same), (5, .same)]
  | 21, 7 => [(1, .box [.same, .same]), (3, .fow 26 1 1), (4, .same), (5, .own 3 1), (6, .same)]
  | 21, 11 => [(1, .box [.same, .same]), (3, .fow 26 1 1), (4, .same), (5, .own 3 1), (7, .same)]
  | 21, 14 => [(1, .box [.same, .same]), (3, .fow 26 1 1), (4, .same), (5, .own 3 1), (7, .same), (8, .same)]
  | 21, 19 => [(1, .box [.same, .same]), (3, .fow 26 1 1), (4, .same), (5, .own 3 1), (7, .same), (8, .same), (9, .same), (10, .same), (11, .same)]
  | 21, 23 => [(1, .box [.same, .same]), (3, .fow 26 1 1), (4, .same), (5, .own 3 1), (7, .same), (8, .same), (9, .same), (10, .same), (12, .same)]
  | 21, 27 => [(3, .fow 26 1 1), (4, .same), (5, .own 3 1), (13, .same)]
  | 21, 31 => [(3, .fow 26 1 1), (4, .same), (5, .own 3 1), (13, .same), (14, .own 3 1), (15, .same)]
  | 22, 5 => [(3, .fow 26 1 1), (16, .same), (17, .same), (18, .same)]
  | 22, 11 => [(6, .box [.own 3 1]), (7, .fow 26 1 1), (16, .same), (17, .same), (18, .same), (28, .fowl 26 1 1), (29, .same), (30, .same)]
  | 23, 4 => [(0, .same), (1, .same), (5, .same)]
  | 24, 2 => [(0, .same), (1, .same), (5, .same)]
  | 25, 2 => [(0, .same), (1, .same), (5, .same)]
  | 26, 5 => [(0, .same), (1, .same), (5, .same)]
  | 27, 5 => [(0, .same), (1, .same), (5, .same)]
  | 28, 2 => [(1, .box [.same, .same]), (3, .same)]
  | 29, 3 => [(1, .box [.same, .same]), (3, .data 1), (4, .same)]
  | 30, 2 => [(0, .same), (1, .same), (5, .same)]
  | 32, 3 => [(0, .same), (3, .own 86 3), (4, .same)]
  | 33, 3 => [(0, .same), (3, .fow 58 2 1), (4, .same)]
  | 34, 4 => [(1, .box [.same, .same]), (16, .same), (17, .same), (18, .same)]
  | 36, 5 => [(0, .same), (1, .same), (5, .same), (6, .same)]
  | 39, 4 => [(0, .same), (1, .same), (5, .same)]
  | 40, 4 => [(0, .same), (1, .same), (5, .same)]
  | 41, 2 => [(0, .same), (1, .same), (5, .same)]
  | 42, 2 => [(0, .same), (1, .same), (5, .same)]
  | 43, 2 => [(0, .same), (1, .same), (5, .same)]
  | 44, 2 => [(0, .same), (1, .same), (5, .same)]
  | 46, 3 => [(1, .box [.same, .same]), (2, .box [.own 86 3, .fow 58 2 1]), (3, .box [.own 86 3, .fow 58 2 1]), (4, .same)]
  | 48, 4 => [(0, .same), (1, .same), (5, .same)]
  | 49, 2 => [(0, .same), (1, .same), (5, .same)]
  | 50, 2 => [(0, .same), (1, .same), (5, .same)]
  | 51, 3 => [(1, .box [.same, .same]), (3, .data 1), (4, .same)]
  | 51, 7 => [(1, .box [.same, .same]), (3, .data 1), (4, .same), (5, .same), (6, .same)]
  | 57, 4 => [(0, .same), (3, .same)]
  | 57, 9 => [(0, .same), (3, .same), (4, .same), (5, .same)]
  | 59, 2 => [(0, .same), (1, .same), (9, .same), (10, .same), (11, .same)]
  | 60, 2 => [(0, .same), (1, .same), (5, .same)]
  | 63, 4 => [(3, .box [.same, .same]), (5, .same)]
  | 65, 2 => [(0, .same), (3, .same)]
  | 67, 2 => [(0, .same), (1, .same), (5, .same)]
  | 70, 2 => [(0, .same), (5, .same), (6, .same), (7, .same)]
  | 74, 3 => [(3, .fow 58 2 1), (7, .same), (8, .same), (9, .same)]
  | 75, 2 => [(0, .same), (1, .same), (7, .same), (8, .same)]
  | 79, 4 => [(0, .same), (3, .same)]
  | 80, 3 => [(3, .own 3 1), (8, .same), (9, .same), (10, .same)]
  | 82, 3 => [(3, .own 3 1), (9, .same), (10, .same), (11, .same)]
  | 83, 2 => [(0, .same), (1, .same), (7, .same), (8, .same)]
  | 84, 2 => [(0, .same), (1, .same), (7, .same), (8, .same)]
  | 85, 2 => [(0, .same), (1, .same), (2, .same), (3, .same), (8, .same), (9, .same)]
  | 87, 2 => [(0, .same), (1, .same), (2, .same), (3, .same), (4, .same), (10, .same), (11, .same)]
  | 92, 2 => [(0, .same), (1, .same), (5, .same)]
  | 98, 3 => [(3, .same), (6, .same), (7, .same), (8, .same)]
  | 101, 1 => [(0, .same), (1, .same), (2, .same), (6, .same)]
  | 101, 4 => [(0, .same), (1, .same), (2, .same), (6, .same), (7, .same)]
  | 102, 4 => [(0, .same), (6, .same), (7, .same), (8, .same), (9, .same)]
  | 102, 8 => [(0, .same), (6, .same), (7, .same), (10, .same)]
  | 103, 5 => [(0, .same), (1, .same), (6, .same), (7, .box [.same]), (8, .same), (9, .same)]
  | 105, 2 => [(0, .same), (6, .same), (7, .same)]
  | 106, 3 => [(0, .same), (1, .same), (2, .same), (7, .same), (8, .same)]
  | 106, 5 => [(0, .same), (1, .same), (2, .same), (7, .same), (8, .same)]
  | 106, 14 => [(0, .same), (1, .same), (2, .same), (7, .same), (8, .same), (9, .same)]
  | 106, 20 => [(0, .same), (1, .same), (2, .same), (7, .same), (8, .same), (10, .same)]
  | 108, 3 => [(0, .same), (1, .same), (9, .same), (10, .same)]
  | 108, 5 => [(0, .same), (1, .same), (9, .same), (10, .same)]
  | 109, 3 => [(0, .same), (1, .same), (10, .same), (11, .same)]
  | 109, 5 => [(0, .same), (1, .same), (10, .same), (11, .same)]
  | 109, 13 => [(0, .same), (1, .same), (10, .same), (11, .same)]
  | 109, 15 => [(0, .same), (1, .same), (10, .same), (11, .same)]
  | 112, 1 => [(0, .same), (1, .same), (2, .same), (3, .same), (8, .same)]
  | 112, 4 => [(0, .same), (1, .same), (2, .same), (3, .same), (8, .same), (9, .same)]
  | 113, 4 => [(0, .same), (3, .same), (8, .same), (9, .same), (10, .same), (11, .same)]
  | 113, 8 => [(0, .same), (3, .same), (8, .same), (9, .same), (12, .same)]
  | 114, 5 => [(0, .same), (1, .same), (8, .same), (9, .box [.same]), (10, .same), (11, .same)]
  | 116, 2 => [(0, .same), (8, .same), (9, .same)]
  | 117, 3 => [(0, .same), (1, .same), (2, .same), (3, .same), (9, .same), (10, .same)]
  | 117, 5 => [(0, .same), (1, .same), (2, .same), (3, .same), (9, .same), (10, .same)]
  | 117, 14 => [(0, .same), (1, .same), (2, .same), (3, .same), (9, .same), (10, .same), (11, .same)]
  | 117, 20 => [(0, .same), (1, .same), (2, .same), (3, .same), (9, .same), (10, .same), (12, .same)]
  | 118, 3 => [(0, .same), (1, .same), (4, .same), (11, .same), (12, .same)]
  | 118, 5 => [(0, .same), (1, .same), (4, .same), (11, .same), (12, .same)]
  | 119, 3 => [(0, .same), (1, .same), (4, .same), (12, .same), (13, .same)]
  | 119, 5 => [(0, .same), (1, .same), (4, .same), (12, .same), (13, .same)]
  | 119, 13 => [(0, .same), (1, .same), (4, .same), (12, .same), (13, .same)]
  | 119, 15 => [(0, .same), (1, .same), (4, .same), (12, .same), (13, .same)]
  | 122, 1 => [(0, .same), (2, .same), (3, .same), (8, .same)]
  | 127, 1 => [(0, .same), (2, .same), (3, .same), (4, .same), (10, .same)]
  | 3, 18 => [(1, .same), (2, .box [.same, .same]), (4, .same), (6, .box [.own 86 3, .fow 58 2 1]), (7, .same), (8, .box [.own 86 3, .fow 58 2 1]), (9, .own 3 1), (10, .box [.own 86 3, .data 2]), (11, .same), (12, .same)]
  | 3, 19 => [(1, .same), (2, .box [.same, .same]), (4, .same), (6, .box [.own 86 3, .fow 58 2 1]), (7, .same), (9, .own 3 1), (10, .box [.own 86 3, .data 2]), (11, .same), (12, .same)]
  | 3, 23 => [(1, .same), (2, .box [.same, .same]), (4, .same), (6, .box [.own 86 3, .fow 58 2 1]), (7, .same), (10, .box [.own 86 3, .data 2]), (13, .same)]
  | 4, 13 => [(1, .box [.same, .same]), (2, .same), (4, .box [.own 86 3, .fow 58 2 1, .fow 101 3 1]), (5, .same), (6, .box [.own 86 3, .fow 58 2 1]), (7, .box [.own 86 3, .fow 58 2 1, .fow 101 3 1]), (8, .same), (9, .same)]
  | 4, 17 => [(1, .box [.same, .same]), (2, .same), (4, .box [.own 86 3, .fow 58 2 1, .fow 101 3 1]), (5, .same), (7, .box [.own 86 3, .fow 58 2 1, .fow 101 3 1]), (10, .same)]
  | 5, 13 => [(1, .box [.same, .same]), (2, .same), (4, .fow 26 1 1), (5, .box [.own 86 3, .fow 58 2 1]), (6, .fow 26 1 1), (7, .same)]
  | 5, 17 => [(1, .box [.same, .same]), (2, .same), (4, .fow 26 1 1), (6, .fow 26 1 1), (8, .same)]
  | _, _ => []
def jn : FuncId → Nat → Option Nat := fun f l => match f, l with
  | 3, 18 => some 0
  | 3, 19 => some 0
  | 3, 23 => some 0
  | 4, 13 => some 0
  | 4, 17 => some 0
  | 5, 13 => some 0
  | 5, 17 => some 0
  | _, _ => none
def hs : Hints := { sig := sg, loops := lp, joins := jn }

def digs : Nat → Nat → List UInt8 → List UInt8
  | 0, _, acc => acc
  | f + 1, n, acc => if n = 0 then acc else digs f (n / 10) (UInt8.ofNat (48 + n % 10) :: acc)
/-- what markText gives -/
def mt (k : Int) : List UInt8 := if k ≤ 0 then [109, 48] else 109 :: digs 64 k.toNat []
def prim : FuncId → Option (Args → Option Res) := prims [(56, sortP), (57, compactP), (121, cloneP 3), (73, cloneZP 86 3), (13, markP true (mkAg (stepInst mt))), (19, markP true (mkAg (stepState mt))), (58, sortGP 59), (24, markP false (mkLs 1 (mkRows stepInts)))]
noncomputable def C (k : Nat) : CallF := evCall P hs prim k
/-- without primitives -/
noncomputable def C0 (k : Nat) : CallF := evCall P hs (fun _ => none) k
end Go.Proofs.Ythicohakeljdcaa.Q

/-! PF -/
namespace Go.Proofs.Ythicohakeljdcaa.Q
open Go Ovi
set_option maxRecDepth 1000000
theorem F4.eq (k : Nat) (call : CallF) (a0_0 : Ovi.Rows) (a0_1 : Ovi.Rows) : evFnK P hs call (4 : FuncId) k Try.f4 [AV.agg [AV.s 3 a0_0, AV.s 2 a0_1]] = bindR (call 6 [AV.agg [AV.d (D.list 3 a0_0), AV.d (D.list 2 a0_1)], AV.d (D.int IntKind.i64 (1048576 : Int))]) fun r4 => bindI (resI IntKind.i64 1 false 1 r4 0 0) fun n5 => ite' (decide (n5 < (0 : Int))) (some ([(false, [RL.d (D.bool true)])])) (bindR (call 8 [AV.agg [AV.d (D.list 3 a0_0), AV.d (D.list 2 a0_1)]]) fun r6 => bindL (resO 86 3 1 true 2 r6 0 0) fun l7 => bindL (resF 58 2 1 1 true 2 r6 0 1) fun l8 => bindR (call 16 [AV.agg [AV.d (D.list 3 l7), AV.d (D.list 2 l8)]]) fun r9 => bindL (resF 86 3 0 2 true 3 r9 0 0) fun l10 => ite' (depR 0 l10) (bindL (resF 58 2 1 2 true 3 r9 0 1) fun l11 => ite' (depR 1 l11) (bindL (resF 101 3 1 2 true 3 r9 0 2) fun l12 => ite' (depR 1 l12) (bindB (resB 2 false 1 r9 1 0) fun b13 => bindR (call 8 [AV.agg [AV.d (D.list 3 a0_0), AV.d (D.list 2 a0_1)]]) fun r14 => bindL (resO 86 3 1 true 2 r14 0 0) fun l15 => bindL (resF 58 2 1 1 true 2 r14 0 1) fun l16 => bindR (call 17 [AV.agg [AV.d (D.list 3 l15), AV.d (D.list 2 l16)]]) fun r17 => bindL (resF 86 3 0 2 true 3 r17 0 0) fun l18 => ite' (depR 0 l18) (bindL (resF 58 2 1 2 true 3 r17 0 1) fun l19 => ite' (depR 1 l19) (bindL (resF 101 3 1 2 true 3 r17 0 2) fun l20 => ite' (depR 1 l20) (bindB (resB 2 false 1 r17 1 0) fun b21 => bindR (call 18 [AV.agg [AV.d (D.list 3 l18), AV.d (D.list 2 l19), AV.d (D.list 3 l20)], AV.agg [AV.d (D.list 3 l10), AV.d (D.list 2 l11), AV.d (D.list 3 l12)]]) fun r22 => bindB (resB 1 false 1 r22 0 0) fun b23 => ite' (!b23) (some ([(false, [RL.d (D.bool false)])])) (ite' (!b21 == b13) (some ([(false, [RL.d (D.bool false)])])) (bindR (call 8 [AV.agg [AV.d (D.list 3 a0_0), AV.d (D.list 2 a0_1)]]) fun r24 => bindL (resO 86 3 1 true 2 r24 0 0) fun l25 => bindL (resF 58 2 1 1 true 2 r24 0 1) fun l26 => bindR (call 11 [AV.agg [AV.d (D.list 3 l15), AV.d (D.list 2 l16)], AV.agg [AV.d (D.list 3 l25), AV.d (D.list 2 l26)]]) fun r27 => bindB (resB 1 false 1 r27 0 0) fun b28 => ite' (!b28) (some ([(false, [RL.d (D.bool false)])])) (ite' (depR 0 l10) (ite' (depR 1 l11) (ite' (depR 1 l12) (ite' (depR 0 l15) (ite' (depR 1 l16) (ite' (depR 0 l18) (ite' (depR 1 l19) (ite' (depR 1 l20) (bindR (call 13 [AV.var 0 0, AV.d (D.bool true), AV.d (D.int IntKind.i64 (1 : Int)), AV.d (D.int IntKind.i64 (↑86 : Int)), AV.d (D.list 3 l15), AV.d (D.int IntKind.i64 (↑58 : Int)), AV.d (D.list 2 l16)]) fun r29 => bindL (resO 86 3 3 false 1 r29 0 0) fun l30 => bindL (resO 58 2 3 false 1 r29 1 0) fun l31 => bindI (resI IntKind.i64 3 false 1 r29 2 0) fun n32 => ite' (decide (n32 < (0 : Int))) (some ([(false, [RL.d (D.bool false)])])) (bindR (call 18 [AV.agg [AV.d (D.list 3 l18), AV.d (D.list 2 l19), AV.d (D.list 3 l20)], AV.agg [AV.d (D.list 3 l10), AV.d (D.list 2 l11), AV.d (D.list 3 l12)]]) fun r33 => bindB (resB 1 false 1 r33 0 0) fun b34 => ite' (!b34) (some ([(false, [RL.d (D.bool false)])])) (ite' (!b21 == b13) (some ([(false, [RL.d (D.bool false)])])) (ite' (depR 0 l10) (ite' (depR 1 l11) (ite' (depR 1 l12) (ite' (depR 0 l18) (ite' (depR 1 l19) (ite' (depR 1 l20) (bindR (call 19 [AV.var 0 0, AV.d (D.bool true), AV.d (D.int IntKind.i64 (1 : Int)), AV.d (D.int IntKind.i64 (↑86 : Int)), AV.d (D.list 3 l18), AV.d (D.int IntKind.i64 (↑58 : Int)), AV.d (D.list 2 l19), AV.d (D.int IntKind.i64 (↑101 : Int)), AV.d (D.list 3 l20)]) fun r35 => bindL (resO 86 3 4 false 1 r35 0 0) fun l36 => bindL (resO 58 2 4 false 1 r35 1 0) fun l37 => bindL (resO 101 3 4 false 1 r35 2 0) fun l38 => bindI (resI IntKind.i64 4 false 1 r35 3 0) fun n39 => bindR (call 20 [AV.agg [AV.d (D.list 3 l36), AV.d (D.list 2 l37), AV.d (D.list 3 l38)], AV.d (D.int IntKind.i64 (1 : Int))]) fun r40 => bindI (resI IntKind.i64 1 false 1 r40 0 0) fun n41 => ite' (decide (n41 < (0 : Int))) (some ([(false, [RL.d (D.bool false)])])) (ite' (n41 != n39) (some ([(false, [RL.d (D.bool false)])])) (bindR (call 8 [AV.agg [AV.d (D.list 3 a0_0), AV.d (D.list 2 a0_1)]]) fun r42 => bindL (resO 86 3 1 true 2 r42 0 0) fun l43 => bindL (resF 58 2 1 1 true 2 r42 0 1) fun l44 => bindR (call 17 [AV.agg [AV.d (D.list 3 l43), AV.d (D.list 2 l44)]]) fun r45 => bindL (resF 86 3 0 2 true 3 r45 0 0) fun l46 => ite' (depR 0 l46) (bindL (resF 58 2 1 2 true 3 r45 0 1) fun l47 => ite' (depR 1 l47) (bindL (resF 101 3 1 2 true 3 r45 0 2) fun l48 => ite' (depR 1 l48) (bindB (resB 2 false 1 r45 1 0) fun b49 => bindR (call 18 [AV.agg [AV.d (D.list 3 l46), AV.d (D.list 2 l47), AV.d (D.list 3 l48)], AV.agg [AV.d (D.list 3 l10), AV.d (D.list 2 l11), AV.d (D.list 3 l12)]]) fun r50 => bindB (resB 1 false 1 r50 0 0) fun b51 => ite' (!b51) (some ([(false, [RL.d (D.bool false)])])) (ite' (!b49 == b13) (some ([(false, [RL.d (D.bool false)])])) (bindR (call 20 [AV.agg [AV.d (D.list 3 l36), AV.d (D.list 2 l37), AV.d (D.list 3 l38)], AV.d (D.int IntKind.i64 (1 : Int))]) fun r52 => bindI (resI IntKind.i64 1 false 1 r52 0 0) fun n53 => ite' (decide (n53 < (0 : Int))) (some ([(false, [RL.d (D.bool false)])])) (ite' (n53 != n39) (some ([(false, [RL.d (D.bool false)])])) (some ([(false, [RL.d (D.bool true)])])))))) (none)) (none)) (none)))) (none)) (none)) (none)) (none)) (none)) (none))))) (none)) (none)) (none)) (none)) (none)) (none)) (none)) (none))))) (none)) (none)) (none)) (none)) (none)) (none)) := by kernel_rfl
theorem F4.run (k : Nat) (a0_0 : Ovi.Rows) (a0_1 : Ovi.Rows) : C (k + 1) 4 [AV.agg [AV.s 3 a0_0, AV.s 2 a0_1]] = bindR ((C k) 6 [AV.agg [AV.d (D.list 3 a0_0), AV.d (D.list 2 a0_1)], AV.d (D.int IntKind.i64 (1048576 : Int))]) fun r4 => bindI (resI IntKind.i64 1 false 1 r4 0 0) fun n5 => ite' (decide (n5 < (0 : Int))) (some ([(false, [RL.d (D.bool true)])])) (bindR ((C k) 8 [AV.agg [AV.d (D.list 3 a0_0), AV.d (D.list 2 a0_1)]]) fun r6 => bindL (resO 86 3 1 true 2 r6 0 0) fun l7 => bindL (resF 58 2 1 1 true 2 r6 0 1) fun l8 => bindR ((C k) 16 [AV.agg [AV.d (D.list 3 l7), AV.d (D.list 2 l8)]]) fun r9 => bindL (resF 86 3 0 2 true 3 r9 0 0) fun l10 => ite' (depR 0 l10) (bindL (resF 58 2 1 2 true 3 r9 0 1) fun l11 => ite' (depR 1 l11) (bindL (resF 101 3 1 2 true 3 r9 0 2) fun l12 => ite' (depR 1 l12) (bindB (resB 2 false 1 r9 1 0) fun b13 => bindR ((C k) 8 [AV.agg [AV.d (D.list 3 a0_0), AV.d (D.list 2 a0_1)]]) fun r14 => bindL (resO 86 3 1 true 2 r14 0 0) fun l15 => bindL (resF 58 2 1 1 true 2 r14 0 1) fun l16 => bindR ((C k) 17 [AV.agg [AV.d (D.list 3 l15), AV.d (D.list 2 l16)]]) fun r17 => bindL (resF 86 3 0 2 true 3 r17 0 0) fun l18 => ite' (depR 0 l18) (bindL (resF 58 2 1 2 true 3 r17 0 1) fun l19 => ite' (depR 1 l19) (bindL (resF 101 3 1 2 true 3 r17 0 2) fun l20 => ite' (depR 1 l20) (bindB (resB 2 false 1 r17 1 0) fun b21 => bindR ((C k) 18 [AV.agg [AV.d (D.list 3 l18), AV.d (D.list 2 l19), AV.d (D.list 3 l20)], AV.agg [AV.d (D.list 3 l10), AV.d (D.list 2 l11), AV.d (D.list 3 l12)]]) fun r22 => bindB (resB 1 false 1 r22 0 0) fun b23 => ite' (!b23) (some ([(false, [RL.d (D.bool false)])])) (ite' (!b21 == b13) (some ([(false, [RL.d (D.bool false)])])) (bindR ((C k) 8 [AV.agg [AV.d (D.list 3 a0_0), AV.d (D.list 2 a0_1)]]) fun r24 => bindL (resO 86 3 1 true 2 r24 0 0) fun l25 => bindL (resF 58 2 1 1 true 2 r24 0 1) fun l26 => bindR ((C k) 11 [AV.agg [AV.d (D.list 3 l15), AV.d (D.list 2 l16)], AV.agg [AV.d (D.list 3 l25), AV.d (D.list 2 l26)]]) fun r27 => bindB (resB 1 false 1 r27 0 0) fun b28 => ite' (!b28) (some ([(false, [RL.d (D.bool false)])])) (ite' (depR 0 l10) (ite' (depR 1 l11) (ite' (depR 1 l12) (ite' (depR 0 l15) (ite' (depR 1 l16) (ite' (depR 0 l18) (ite' (depR 1 l19) (ite' (depR 1 l20) (bindR ((C k) 13 [AV.var 0 0, AV.d (D.bool true), AV.d (D.int IntKind.i64 (1 : Int)), AV.d (D.int IntKind.i64 (↑86 : Int)), AV.d (D.list 3 l15), AV.d (D.int IntKind.i64 (↑58 : Int)), AV.d (D.list 2 l16)]) fun r29 => bindL (resO 86 3 3 false 1 r29 0 0) fun l30 => bindL (resO 58 2 3 false 1 r29 1 0) fun l31 => bindI (resI IntKind.i64 3 false 1 r29 2 0) fun n32 => ite' (decide (n32 < (0 : Int))) (some ([(false, [RL.d (D.bool false)])])) (bindR ((C k) 18 [AV.agg [AV.d (D.list 3 l18), AV.d (D.list 2 l19), AV.d (D.list 3 l20)], AV.agg [AV.d (D.list 3 l10), AV.d (D.list 2 l11), AV.d (D.list 3 l12)]]) fun r33 => bindB (resB 1 false 1 r33 0 0) fun b34 => ite' (!b34) (some ([(false, [RL.d (D.bool false)])])) (ite' (!b21 == b13) (some ([(false, [RL.d (D.bool false)])])) (ite' (depR 0 l10) (ite' (depR 1 l11) (ite' (depR 1 l12) (ite' (depR 0 l18) (ite' (depR 1 l19) (ite' (depR 1 l20) (bindR ((C k) 19 [AV.var 0 0, AV.d (D.bool true), AV.d (D.int IntKind.i64 (1 : Int)), AV.d (D.int IntKind.i64 (↑86 : Int)), AV.d (D.list 3 l18), AV.d (D.int IntKind.i64 (↑58 : Int)), AV.d (D.list 2 l19), AV.d (D.int IntKind.i64 (↑101 : Int)), AV.d (D.list 3 l20)]) fun r35 => bindL (resO 86 3 4 false 1 r35 0 0) fun l36 => bindL (resO 58 2 4 false 1 r35 1 0) fun l37 => bindL (resO 101 3 4 false 1 r35 2 0) fun l38 => bindI (resI IntKind.i64 4 false 1 r35 3 0) fun n39 => bindR ((C k) 20 [AV.agg [AV.d (D.list 3 l36), AV.d (D.list 2 l37), AV.d (D.list 3 l38)], AV.d (D.int IntKind.i64 (1 : Int))]) fun r40 => bindI (resI IntKind.i64 1 false 1 r40 0 0) fun n41 => ite' (decide (n41 < (0 : Int))) (some ([(false, [RL.d (D.bool false)])])) (ite' (n41 != n39) (some ([(false, [RL.d (D.bool false)])])) (bindR ((C k) 8 [AV.agg [AV.d (D.list 3 a0_0), AV.d (D.list 2 a0_1)]]) fun r42 => bindL (resO 86 3 1 true 2 r42 0 0) fun l43 => bindL (resF 58 2 1 1 true 2 r42 0 1) fun l44 => bindR ((C k) 17 [AV.agg [AV.d (D.list 3 l43), AV.d (D.list 2 l44)]]) fun r45 => bindL (resF 86 3 0 2 true 3 r45 0 0) fun l46 => ite' (depR 0 l46) (bindL (resF 58 2 1 2 true 3 r45 0 1) fun l47 => ite' (depR 1 l47) (bindL (resF 101 3 1 2 true 3 r45 0 2) fun l48 => ite' (depR 1 l48) (bindB (resB 2 false 1 r45 1 0) fun b49 => bindR ((C k) 18 [AV.agg [AV.d (D.list 3 l46), AV.d (D.list 2 l47), AV.d (D.list 3 l48)], AV.agg [AV.d (D.list 3 l10), AV.d (D.list 2 l11), AV.d (D.list 3 l12)]]) fun r50 => bindB (resB 1 false 1 r50 0 0) fun b51 => ite' (!b51) (some ([(false, [RL.d (D.bool false)])])) (ite' (!b49 == b13) (some ([(false, [RL.d (D.bool false)])])) (bindR ((C k) 20 [AV.agg [AV.d (D.list 3 l36), AV.d (D.list 2 l37), AV.d (D.list 3 l38)], AV.d (D.int IntKind.i64 (1 : Int))]) fun r52 => bindI (resI IntKind.i64 1 false 1 r52 0 0) fun n53 => ite' (decide (n53 < (0 : Int))) (some ([(false, [RL.d (D.bool false)])])) (ite' (n53 != n39) (some ([(false, [RL.d (D.bool false)])])) (some ([(false, [RL.d (D.bool true)])])))))) (none)) (none)) (none)))) (none)) (none)) (none)) (none)) (none)) (none))))) (none)) (none)) (none)) (none)) (none)) (none)) (none)) (none))))) (none)) (none)) (none)) (none)) (none)) (none)) := (show C (k + 1) 4 [AV.agg [AV.s 3 a0_0, AV.s 2 a0_1]] = evFnK P hs (C k) 4 k Try.f4 [AV.agg [AV.s 3 a0_0, AV.s 2 a0_1]] by kernel_rfl).trans (F4.eq k (C k) a0_0 a0_1)
theorem F5.eq (k : Nat) (call : CallF) (a0_0 : Ovi.Rows) (a0_1 : Ovi.Rows) : evFnK P hs call (5 : FuncId) k Try.f5 [AV.agg [AV.s 3 a0_0, AV.s 2 a0_1]] = bindR (call 6 [AV.agg [AV.d (D.list 3 a0_0), AV.d (D.list 2 a0_1)], AV.d (D.int IntKind.i64 (1048576 : Int))]) fun r4 => bindI (resI IntKind.i64 1 false 1 r4 0 0) fun n5 => ite' (decide (n5 < (0 : Int))) (some ([(false, [RL.d (D.bool true)])])) (bindR (call 8 [AV.agg [AV.d (D.list 3 a0_0), AV.d (D.list 2 a0_1)]]) fun r6 => bindL (resO 86 3 1 true 2 r6 0 0) fun l7 => bindL (resF 58 2 1 1 true 2 r6 0 1) fun l8 => bindR (call 21 [AV.agg [AV.d (D.list 3 l7), AV.d (D.list 2 l8)]]) fun r9 => bindL (resF 26 1 1 1 false 1 r9 0 0) fun l10 => ite' (depR 1 l10) (bindR (call 8 [AV.agg [AV.d (D.list 3 a0_0), AV.d (D.list 2 a0_1)]]) fun r11 => bindL (resO 86 3 1 true 2 r11 0 0) fun l12 => bindL (resF 58 2 1 1 true 2 r11 0 1) fun l13 => bindR (call 22 [AV.agg [AV.d (D.list 3 l12), AV.d (D.list 2 l13)]]) fun r14 => bindL (resF 26 1 1 1 false 1 r14 0 0) fun l15 => ite' (depR 1 l15) (bindR (call 23 [AV.d (D.list 1 l15), AV.d (D.list 1 l10)]) fun r16 => bindB (resB 1 false 1 r16 0 0) fun b17 => ite' (!b17) (some ([(false, [RL.d (D.bool false)])])) (bindR (call 8 [AV.agg [AV.d (D.list 3 a0_0), AV.d (D.list 2 a0_1)]]) fun r18 => bindL (resO 86 3 1 true 2 r18 0 0) fun l19 => bindL (resF 58 2 1 1 true 2 r18 0 1) fun l20 => bindR (call 11 [AV.agg [AV.d (D.list 3 l12), AV.d (D.list 2 l13)], AV.agg [AV.d (D.list 3 l19), AV.d (D.list 2 l20)]]) fun r21 => bindB (resB 1 false 1 r21 0 0) fun b22 => ite' (!b22) (some ([(false, [RL.d (D.bool false)])])) (ite' (depR 1 l10) (ite' (depR 0 l12) (ite' (depR 1 l13) (ite' (depR 1 l15) (bindR (call 13 [AV.var 0 0, AV.d (D.bool true), AV.d (D.int IntKind.i64 (1 : Int)), AV.d (D.int IntKind.i64 (↑86 : Int)), AV.d (D.list 3 l12), AV.d (D.int IntKind.i64 (↑58 : Int)), AV.d (D.list 2 l13)]) fun r23 => bindL (resO 86 3 3 false 1 r23 0 0) fun l24 => bindL (resO 58 2 3 false 1 r23 1 0) fun l25 => bindI (resI IntKind.i64 3 false 1 r23 2 0) fun n26 => ite' (decide (n26 < (0 : Int))) (some ([(false, [RL.d (D.bool false)])])) (bindR (call 23 [AV.d (D.list 1 l15), AV.d (D.list 1 l10)]) fun r27 => bindB (resB 1 false 1 r27 0 0) fun b28 => ite' (!b28) (some ([(false, [RL.d (D.bool false)])])) (ite' (depR 1 l10) (ite' (depR 1 l15) (bindR (call 24 [AV.var 0 0, AV.d (D.bool false), AV.d (D.int IntKind.i64 (1 : Int)), AV.d (D.int IntKind.i64 (↑26 : Int)), AV.d (D.list 1 l15)]) fun r29 => bindL (resO 26 1 2 false 1 r29 0 0) fun l30 => bindI (resI IntKind.i64 2 false 1 r29 1 0) fun n31 => bindR (call 25 [AV.d (D.list 1 l30), AV.d (D.int IntKind.i64 (1 : Int))]) fun r32 => bindI (resI IntKind.i64 1 false 1 r32 0 0) fun n33 => ite' (decide (n33 < (0 : Int))) (some ([(false, [RL.d (D.bool false)])])) (ite' (n33 != n31) (some ([(false, [RL.d (D.bool false)])])) (bindR (call 8 [AV.agg [AV.d (D.list 3 a0_0), AV.d (D.list 2 a0_1)]]) fun r34 => bindL (resO 86 3 1 true 2 r34 0 0) fun l35 => bindL (resF 58 2 1 1 true 2 r34 0 1) fun l36 => bindR (call 22 [AV.agg [AV.d (D.list 3 l35), AV.d (D.list 2 l36)]]) fun r37 => bindL (resF 26 1 1 1 false 1 r37 0 0) fun l38 => ite' (depR 1 l38) (bindR (call 23 [AV.d (D.list 1 l38), AV.d (D.list 1 l10)]) fun r39 => bindB (resB 1 false 1 r39 0 0) fun b40 => ite' (!b40) (some ([(false, [RL.d (D.bool false)])])) (bindR (call 25 [AV.d (D.list 1 l30), AV.d (D.int IntKind.i64 (1 : Int))]) fun r41 => bindI (resI IntKind.i64 1 false 1 r41 0 0) fun n42 => ite' (decide (n42 < (0 : Int))) (some ([(false, [RL.d (D.bool false)])])) (ite' (n42 != n31) (some ([(false, [RL.d (D.bool false)])])) (some ([(false, [RL.d (D.bool true)])]))))) (none)))) (none)) (none)))) (none)) (none)) (none)) (none)))) (none)) (none)) := by kernel_rfl
theorem F5.run (k : Nat) (a0_0 : Ovi.Rows) (a0_1 : Ovi.Rows) : C (k + 1) 5 [AV.agg [AV.s 3 a0_0, AV.s 2 a0_1]] = bindR ((C k) 6 [AV.agg [AV.d (D.list 3 a0_0), AV.d (D.list 2 a0_1)], AV.d (D.int IntKind.i64 (1048576 : Int))]) fun r4 => bindI (resI IntKind.i64 1 false 1 r4 0 0) fun n5 => ite' (decide (n5 < (0 : Int))) (some ([(false, [RL.d (D.bool true)])])) (bindR ((C k) 8 [AV.agg [AV.d (D.list 3 a0_0), AV.d (D.list 2 a0_1)]]) fun r6 => bindL (resO 86 3 1 true 2 r6 0 0) fun l7 => bindL (resF 58 2 1 1 true 2 r6 0 1) fun l8 => bindR ((C k) 21 [AV.agg [AV.d (D.list 3 l7), AV.d (D.list 2 l8)]]) fun r9 => bindL (resF 26 1 1 1 false 1 r9 0 0) fun l10 => ite' (depR 1 l10) (bindR ((C k) 8 [AV.agg [AV.d (D.list 3 a0_0), AV.d (D.list 2 a0_1)]]) fun r11 => bindL (resO 86 3 1 true 2 r11 0 0) fun l12 => bindL (resF 58 2 1 1 true 2 r11 0 1) fun l13 => bindR ((C k) 22 [AV.agg [AV.d (D.list 3 l12), AV.d (D.list 2 l13)]]) fun r14 => bindL (resF 26 1 1 1 false 1 r14 0 0) fun l15 => ite' (depR 1 l15) (bindR ((C k) 23 [AV.d (D.list 1 l15), AV.d (D.list 1 l10)]) fun r16 => bindB (resB 1 false 1 r16 0 0) fun b17 => ite' (!b17) (some ([(false, [RL.d (D.bool false)])])) (bindR ((C k) 8 [AV.agg [AV.d (D.list 3 a0_0), AV.d (D.list 2 a0_1)]]) fun r18 => bindL (resO 86 3 1 true 2 r18 0 0) fun l19 => bindL (resF 58 2 1 1 true 2 r18 0 1) fun l20 => bindR ((C k) 11 [AV.agg [AV.d (D.list 3 l12), AV.d (D.list 2 l13)], AV.agg [AV.d (D.list 3 l19), AV.d (D.list 2 l20)]]) fun r21 => bindB (resB 1 false 1 r21 0 0) fun b22 => ite' (!b22) (some ([(false, [RL.d (D.bool false)])])) (ite' (depR 1 l10) (ite' (depR 0 l12) (ite' (depR 1 l13) (ite' (depR 1 l15) (bindR ((C k) 13 [AV.var 0 0, AV.d (D.bool true), AV.d (D.int IntKind.i64 (1 : Int)), AV.d (D.int IntKind.i64 (↑86 : Int)), AV.d (D.list 3 l12), AV.d (D.int IntKind.i64 (↑58 : Int)), AV.d (D.list 2 l13)]) fun r23 => bindL (resO 86 3 3 false 1 r23 0 0) fun l24 => bindL (resO 58 2 3 false 1 r23 1 0) fun l25 => bindI (resI IntKind.i64 3 false 1 r23 2 0) fun n26 => ite' (decide (n26 < (0 : Int))) (some ([(false, [RL.d (D.bool false)])])) (bindR ((C k) 23 [AV.d (D.list 1 l15), AV.d (D.list 1 l10)]) fun r27 => bindB (resB 1 false 1 r27 0 0) fun b28 => ite' (!b28) (some ([(false, [RL.d (D.bool false)])])) (ite' (depR 1 l10) (ite' (depR 1 l15) (bindR ((C k) 24 [AV.var 0 0, AV.d (D.bool false), AV.d (D.int IntKind.i64 (1 : Int)), AV.d (D.int IntKind.i64 (↑26 : Int)), AV.d (D.list 1 l15)]) fun r29 => bindL (resO 26 1 2 false 1 r29 0 0) fun l30 => bindI (resI IntKind.i64 2 false 1 r29 1 0) fun n31 => bindR ((C k) 25 [AV.d (D.list 1 l30), AV.d (D.int IntKind.i64 (1 : Int))]) fun r32 => bindI (resI IntKind.i64 1 false 1 r32 0 0) fun n33 => ite' (decide (n33 < (0 : Int))) (some ([(false, [RL.d (D.bool false)])])) (ite' (n33 != n31) (some ([(false, [RL.d (D.bool false)])])) (bindR ((C k) 8 [AV.agg [AV.d (D.list 3 a0_0), AV.d (D.list 2 a0_1)]]) fun r34 => bindL (resO 86 3 1 true 2 r34 0 0) fun l35 => bindL (resF 58 2 1 1 true 2 r34 0 1) fun l36 => bindR ((C k) 22 [AV.agg [AV.d (D.list 3 l35), AV.d (D.list 2 l36)]]) fun r37 => bindL (resF 26 1 1 1 false 1 r37 0 0) fun l38 => ite' (depR 1 l38) (bindR ((C k) 23 [AV.d (D.list 1 l38), AV.d (D.list 1 l10)]) fun r39 => bindB (resB 1 false 1 r39 0 0) fun b40 => ite' (!b40) (some ([(false, [RL.d (D.bool false)])])) (bindR ((C k) 25 [AV.d (D.list 1 l30), AV.d (D.int IntKind.i64 (1 : Int))]) fun r41 => bindI (resI IntKind.i64 1 false 1 r41 0 0) fun n42 => ite' (decide (n42 < (0 : Int))) (some ([(false, [RL.d (D.bool false)])])) (ite' (n42 != n31) (some ([(false, [RL.d (D.bool false)])])) (some ([(false, [RL.d (D.bool true)])]))))) (none)))) (none)) (none)))) (none)) (none)) (none)) (none)))) (none)) (none)) := (show C (k + 1) 5 [AV.agg [AV.s 3 a0_0, AV.s 2 a0_1]] = evFnK P hs (C k) 5 k Try.f5 [AV.agg [AV.s 3 a0_0, AV.s 2 a0_1]] by kernel_rfl).trans (F5.eq k (C k) a0_0 a0_1)
theorem F6.eq (k : Nat) (call : CallF) (a0_0 : Ovi.Rows) (a0_1 : Ovi.Rows) (a1 : Int) : evFnK P hs call (6 : FuncId) k Try.f6 [AV.agg [AV.d (D.list 3 a0_0), AV.d (D.list 2 a0_1)], AV.d (D.int IntKind.i64 a1)] = bindR (call 26 [AV.d (D.list 3 a0_0), AV.d (D.int IntKind.i64 a1)]) fun r5 => bindI (resI IntKind.i64 1 false 1 r5 0 0) fun n6 => ite' (decide (n6 < (0 : Int))) (some ([(false, [RL.d (D.int IntKind.i64 (-1 : Int))])])) (bindR (call 27 [AV.d (D.list 2 a0_1), AV.d (D.int IntKind.i64 n6)]) fun r7 => bindI (resI IntKind.i64 1 false 1 r7 0 0) fun n8 => ite' (decide (n8 < (0 : Int))) (some ([(false, [RL.d (D.int IntKind.i64 (-1 : Int))])])) (some ([(false, [RL.d (D.int IntKind.i64 n8)])]))) := by kernel_rfl
theorem F6.run (k : Nat) (a0_0 : Ovi.Rows) (a0_1 : Ovi.Rows) (a1 : Int) : C (k + 1) 6 [AV.agg [AV.d (D.list 3 a0_0), AV.d (D.list 2 a0_1)], AV.d (D.int IntKind.i64 a1)] = bindR ((C k) 26 [AV.d (D.list 3 a0_0), AV.d (D.int IntKind.i64 a1)]) fun r5 => bindI (resI IntKind.i64 1 false 1 r5 0 0) fun n6 => ite' (decide (n6 < (0 : Int))) (some ([(false, [RL.d (D.int IntKind.i64 (-1 : Int))])])) (bindR ((C k) 27 [AV.d (D.list 2 a0_1), AV.d (D.int IntKind.i64 n6)]) fun r7 => bindI (resI IntKind.i64 1 false 1 r7 0 0) fun n8 => ite' (decide (n8 < (0 : Int))) (some ([(false, [RL.d (D.int IntKind.i64 (-1 : Int))])])) (some ([(false, [RL.d (D.int IntKind.i64 n8)])]))) := (show C (k + 1) 6 [AV.agg [AV.d (D.list 3 a0_0), AV.d (D.list 2 a0_1)], AV.d (D.int IntKind.i64 a1)] = evFnK P hs (C k) 6 k Try.f6 [AV.agg [AV.d (D.list 3 a0_0), AV.d (D.list 2 a0_1)], AV.d (D.int IntKind.i64 a1)] by kernel_rfl).trans (F6.eq k (C k) a0_0 a0_1 a1)
theorem F8.eq (k : Nat) (call : CallF) (a0_0 : Ovi.Rows) (a0_1 : Ovi.Rows) : evFnK P hs call (8 : FuncId) k Try.f8 [AV.agg [AV.d (D.list 3 a0_0), AV.d (D.list 2 a0_1)]] = bindR (call 32 [AV.d (D.list 3 a0_0)]) fun r4 => bindL (resO 86 3 1 false 1 r4 0 0) fun l5 => bindR (call 33 [AV.d (D.list 2 a0_1)]) fun r6 => bindL (resF 58 2 1 1 false 1 r6 0 0) fun l7 => some ([(true, [RL.row 86 3 l5, RL.frow 58 2 1 l7])]) := by kernel_rfl
theorem F8.run (k : Nat) (a0_0 : Ovi.Rows) (a0_1 : Ovi.Rows) : C (k + 1) 8 [AV.agg [AV.d (D.list 3 a0_0), AV.d (D.list 2 a0_1)]] = bindR ((C k) 32 [AV.d (D.list 3 a0_0)]) fun r4 => bindL (resO 86 3 1 false 1 r4 0 0) fun l5 => bindR ((C k) 33 [AV.d (D.list 2 a0_1)]) fun r6 => bindL (resF 58 2 1 1 false 1 r6 0 0) fun l7 => some ([(true, [RL.row 86 3 l5, RL.frow 58 2 1 l7])]) := (show C (k + 1) 8 [AV.agg [AV.d (D.list 3 a0_0), AV.d (D.list 2 a0_1)]] = evFnK P hs (C k) 8 k Try.f8 [AV.agg [AV.d (D.list 3 a0_0), AV.d (D.list 2 a0_1)]] by kernel_rfl).trans (F8.eq k (C k) a0_0 a0_1)
noncomputable def F9.L3 (k : Nat) (call : CallF)  (n : Nat) (v0 : Ovi.Rows) (v1 : Int) (v2 : Ovi.Rows) : Option Res := loopFn P hs call 9 k Try.f9 [1, 1, 0, 1, 0] [] n [(0, AV.d (D.list 1 v0)), (3, AV.own 100003 0), (4, AV.d (D.int IntKind.i64 v1))] [(100003, Blk.arr 3 1 0 v2 (0, 0, 0))]
theorem F9.L3.zero (k : Nat) (call : CallF)  (v0 : Ovi.Rows) (v1 : Int) (v2 : Ovi.Rows) : F9.L3 k call  0 v0 v1 v2 = none := by kernel_rfl
theorem F9.L3.succ (k : Nat) (call : CallF)  (n : Nat) (v0 : Ovi.Rows) (v1 : Int) (v2 : Ovi.Rows) : F9.L3 k call  (n + 1) v0 v1 v2 = ite' (decide (v1 < (↑(List.length v0) : Int))) (ite' (inR v1 (List.length v0)) (bindI (cellI IntKind.i64 v0 v1.toNat 0) fun n7 => ite' (inR v1 (List.length v2)) (F9.L3 k call  (n) (v0) (IntKind.i64.wrap (v1 + (1 : Int))) (rowsSet v2 v1.toNat 0 [D.int IntKind.i64 n7])) (none)) (none)) (some ([(false, [RL.row 3 1 v2])])) := by kernel_rfl
theorem F9.eq (k : Nat) (call : CallF) (a0 : Ovi.Rows) : evFnK P hs call (9 : FuncId) k Try.f9 [AV.d (D.list 1 a0)] = ite' ((↑(List.length a0) : Int) == (↑(List.length a0) : Int)) (ite' (inM (↑(List.length a0) : Int)) (F9.L3 k call  (k) (a0) ((0 : Int)) (rowsOf (↑(List.length a0) : Int) [D.int IntKind.i64 (0 : Int)])) (none)) (none) := by kernel_rfl
theorem F9.run (k : Nat) (a0 : Ovi.Rows) : C (k + 1) 9 [AV.d (D.list 1 a0)] = ite' ((↑(List.length a0) : Int) == (↑(List.length a0) : Int)) (ite' (inM (↑(List.length a0) : Int)) (F9.L3 k (C k)  (k) (a0) ((0 : Int)) (rowsOf (↑(List.length a0) : Int) [D.int IntKind.i64 (0 : Int)])) (none)) (none) := (show C (k + 1) 9 [AV.d (D.list 1 a0)] = evFnK P hs (C k) 9 k Try.f9 [AV.d (D.list 1 a0)] by kernel_rfl).trans (F9.eq k (C k) a0)
theorem F11.eq (k : Nat) (call : CallF) (a0_0 : Ovi.Rows) (a0_1 : Ovi.Rows) (a1_0 : Ovi.Rows) (a1_1 : Ovi.Rows) : evFnK P hs call (11 : FuncId) k Try.f11 [AV.agg [AV.d (D.list 3 a0_0), AV.d (D.list 2 a0_1)], AV.agg [AV.d (D.list 3 a1_0), AV.d (D.list 2 a1_1)]] = bindR (call 39 [AV.d (D.list 3 a0_0), AV.d (D.list 3 a1_0)]) fun r6 => bindB (resB 1 false 1 r6 0 0) fun b7 => ite' (!b7) (some ([(false, [RL.d (D.bool false)])])) (bindR (call 40 [AV.d (D.list 2 a0_1), AV.d (D.list 2 a1_1)]) fun r8 => bindB (resB 1 false 1 r8 0 0) fun b9 => ite' (!b9) (some ([(false, [RL.d (D.bool false)])])) (some ([(false, [RL.d (D.bool true)])]))) := by kernel_rfl
theorem F11.run (k : Nat) (a0_0 : Ovi.Rows) (a0_1 : Ovi.Rows) (a1_0 : Ovi.Rows) (a1_1 : Ovi.Rows) : C (k + 1) 11 [AV.agg [AV.d (D.list 3 a0_0), AV.d (D.list 2 a0_1)], AV.agg [AV.d (D.list 3 a1_0), AV.d (D.list 2 a1_1)]] = bindR ((C k) 39 [AV.d (D.list 3 a0_0), AV.d (D.list 3 a1_0)]) fun r6 => bindB (resB 1 false 1 r6 0 0) fun b7 => ite' (!b7) (some ([(false, [RL.d (D.bool false)])])) (bindR ((C k) 40 [AV.d (D.list 2 a0_1), AV.d (D.list 2 a1_1)]) fun r8 => bindB (resB 1 false 1 r8 0 0) fun b9 => ite' (!b9) (some ([(false, [RL.d (D.bool false)])])) (some ([(false, [RL.d (D.bool true)])]))) := (show C (k + 1) 11 [AV.agg [AV.d (D.list 3 a0_0), AV.d (D.list 2 a0_1)], AV.agg [AV.d (D.list 3 a1_0), AV.d (D.list 2 a1_1)]] = evFnK P hs (C k) 11 k Try.f11 [AV.agg [AV.d (D.list 3 a0_0), AV.d (D.list 2 a0_1)], AV.agg [AV.d (D.list 3 a1_0), AV.d (D.list 2 a1_1)]] by kernel_rfl).trans (F11.eq k (C k) a0_0 a0_1 a1_0 a1_1)
noncomputable def F12.L4 (k : Nat) (call : CallF)  (n : Nat) (v0 : Ovi.Rows) (v1 : Ovi.Rows) (v2 : Int) : Option Res := loopFn P hs call 12 k Try.f12 [1, 1, 0, 1, 0] [] n [(0, AV.d (D.list 1 v0)), (1, AV.d (D.list 1 v1)), (5, AV.d (D.int IntKind.i64 v2))] []
theorem F12.L4.zero (k : Nat) (call : CallF)  (v0 : Ovi.Rows) (v1 : Ovi.Rows) (v2 : Int) : F12.L4 k call  0 v0 v1 v2 = none := by kernel_rfl
theorem F12.L4.succ (k : Nat) (call : CallF)  (n : Nat) (v0 : Ovi.Rows) (v1 : Ovi.Rows) (v2 : Int) : F12.L4 k call  (n + 1) v0 v1 v2 = ite' (decide (v2 < (↑(List.length v0) : Int))) (ite' (inR v2 (List.length v0)) (bindI (cellI IntKind.i64 v0 v2.toNat 0) fun n8 => ite' (inR v2 (List.length v1)) (bindI (cellI IntKind.i64 v1 v2.toNat 0) fun n9 => ite' (n8 != n9) (some ([(false, [RL.d (D.bool false)])])) (F12.L4 k call  (n) (v0) (v1) (IntKind.i64.wrap (v2 + (1 : Int))))) (none)) (none)) (some ([(false, [RL.d (D.bool true)])])) := by kernel_rfl
theorem F12.eq (k : Nat) (call : CallF) (a0 : Ovi.Rows) (a1 : Ovi.Rows) : evFnK P hs call (12 : FuncId) k Try.f12 [AV.d (D.list 1 a0), AV.d (D.list 1 a1)] = ite' ((↑(List.length a0) : Int) != (↑(List.length a1) : Int)) (some ([(false, [RL.d (D.bool false)])])) (F12.L4 k call  (k) (a0) (a1) ((0 : Int))) := by kernel_rfl
theorem F12.run (k : Nat) (a0 : Ovi.Rows) (a1 : Ovi.Rows) : C (k + 1) 12 [AV.d (D.list 1 a0), AV.d (D.list 1 a1)] = ite' ((↑(List.length a0) : Int) != (↑(List.length a1) : Int)) (some ([(false, [RL.d (D.bool false)])])) (F12.L4 k (C k)  (k) (a0) (a1) ((0 : Int))) := (show C (k + 1) 12 [AV.d (D.list 1 a0), AV.d (D.list 1 a1)] = evFnK P hs (C k) 12 k Try.f12 [AV.d (D.list 1 a0), AV.d (D.list 1 a1)] by kernel_rfl).trans (F12.eq k (C k) a0 a1)
theorem F15.eq (k : Nat) (call : CallF) (a0_0 : Ovi.Rows) (a0_1 : Ovi.Rows) (a1 : Int) : evFnK P hs call (15 : FuncId) k Try.f15 [AV.agg [AV.d (D.list 3 a0_0), AV.d (D.list 2 a0_1)], AV.d (D.int IntKind.i64 a1)] = bindR (call 43 [AV.d (D.list 3 a0_0), AV.d (D.int IntKind.i64 a1)]) fun r5 => bindI (resI IntKind.i64 1 false 1 r5 0 0) fun n6 => ite' (decide (n6 < (0 : Int))) (some ([(false, [RL.d (D.int IntKind.i64 (-1 : Int))])])) (bindR (call 44 [AV.d (D.list 2 a0_1), AV.d (D.int IntKind.i64 n6)]) fun r7 => bindI (resI IntKind.i64 1 false 1 r7 0 0) fun n8 => ite' (decide (n8 < (0 : Int))) (some ([(false, [RL.d (D.int IntKind.i64 (-1 : Int))])])) (some ([(false, [RL.d (D.int IntKind.i64 n8)])]))) := by kernel_rfl
theorem F15.run (k : Nat) (a0_0 : Ovi.Rows) (a0_1 : Ovi.Rows) (a1 : Int) : C (k + 1) 15 [AV.agg [AV.d (D.list 3 a0_0), AV.d (D.list 2 a0_1)], AV.d (D.int IntKind.i64 a1)] = bindR ((C k) 43 [AV.d (D.list 3 a0_0), AV.d (D.int IntKind.i64 a1)]) fun r5 => bindI (resI IntKind.i64 1 false 1 r5 0 0) fun n6 => ite' (decide (n6 < (0 : Int))) (some ([(false, [RL.d (D.int IntKind.i64 (-1 : Int))])])) (bindR ((C k) 44 [AV.d (D.list 2 a0_1), AV.d (D.int IntKind.i64 n6)]) fun r7 => bindI (resI IntKind.i64 1 false 1 r7 0 0) fun n8 => ite' (decide (n8 < (0 : Int))) (some ([(false, [RL.d (D.int IntKind.i64 (-1 : Int))])])) (some ([(false, [RL.d (D.int IntKind.i64 n8)])]))) := (show C (k + 1) 15 [AV.agg [AV.d (D.list 3 a0_0), AV.d (D.list 2 a0_1)], AV.d (D.int IntKind.i64 a1)] = evFnK P hs (C k) 15 k Try.f15 [AV.agg [AV.d (D.list 3 a0_0), AV.d (D.list 2 a0_1)], AV.d (D.int IntKind.i64 a1)] by kernel_rfl).trans (F15.eq k (C k) a0_0 a0_1 a1)
theorem F16.eq (k : Nat) (call : CallF) (a0_0 : Ovi.Rows) (a0_1 : Ovi.Rows) : evFnK P hs call (16 : FuncId) k Try.f16 [AV.agg [AV.d (D.list 3 a0_0), AV.d (D.list 2 a0_1)]] = bindR (call 45 [AV.agg [AV.d (D.list 3 a0_0), AV.d (D.list 2 a0_1)]]) fun r4 => bindB (resB 1 false 1 r4 0 0) fun b5 => ite' (!b5) (some ([(true, [RL.nil, RL.nil, RL.nil]), (false, [RL.d (D.bool false)])])) (bindR (call 46 [AV.agg [AV.d (D.list 3 a0_0), AV.d (D.list 2 a0_1)]]) fun r6 => bindL (resO 86 3 1 true 2 r6 0 0) fun l7 => bindL (resF 58 2 1 1 true 2 r6 0 1) fun l8 => some ([(true, [RL.frow 86 3 0 l7, RL.frow 58 2 1 l8, RL.nil]), (false, [RL.d (D.bool true)])])) := by kernel_rfl
theorem F16.run (k : Nat) (a0_0 : Ovi.Rows) (a0_1 : Ovi.Rows) : C (k + 1) 16 [AV.agg [AV.d (D.list 3 a0_0), AV.d (D.list 2 a0_1)]] = bindR ((C k) 45 [AV.agg [AV.d (D.list 3 a0_0), AV.d (D.list 2 a0_1)]]) fun r4 => bindB (resB 1 false 1 r4 0 0) fun b5 => ite' (!b5) (some ([(true, [RL.nil, RL.nil, RL.nil]), (false, [RL.d (D.bool false)])])) (bindR ((C k) 46 [AV.agg [AV.d (D.list 3 a0_0), AV.d (D.list 2 a0_1)]]) fun r6 => bindL (resO 86 3 1 true 2 r6 0 0) fun l7 => bindL (resF 58 2 1 1 true 2 r6 0 1) fun l8 => some ([(true, [RL.frow 86 3 0 l7, RL.frow 58 2 1 l8, RL.nil]), (false, [RL.d (D.bool true)])])) := (show C (k + 1) 16 [AV.agg [AV.d (D.list 3 a0_0), AV.d (D.list 2 a0_1)]] = evFnK P hs (C k) 16 k Try.f16 [AV.agg [AV.d (D.list 3 a0_0), AV.d (D.list 2 a0_1)]] by kernel_rfl).trans (F16.eq k (C k) a0_0 a0_1)
theorem F17.eq (k : Nat) (call : CallF) (a0_0 : Ovi.Rows) (a0_1 : Ovi.Rows) : evFnK P hs call (17 : FuncId) k Try.f17 [AV.agg [AV.d (D.list 3 a0_0), AV.d (D.list 2 a0_1)]] = bindR (call 47 [AV.agg [AV.d (D.list 3 a0_0), AV.d (D.list 2 a0_1)]]) fun r4 => bindB (resB 1 false 1 r4 0 0) fun b5 => ite' (!b5) (some ([(true, [RL.nil, RL.nil, RL.nil]), (false, [RL.d (D.bool false)])])) (bindR (call 35 [AV.agg [AV.d (D.list 3 a0_0), AV.d (D.list 2 a0_1)]]) fun r6 => bindL (resO 86 3 1 true 2 r6 0 0) fun l7 => bindL (resF 58 2 1 1 true 2 r6 0 1) fun l8 => some ([(true, [RL.frow 86 3 0 l7, RL.frow 58 2 1 l8, RL.nil]), (false, [RL.d (D.bool true)])])) := by kernel_rfl
theorem F17.run (k : Nat) (a0_0 : Ovi.Rows) (a0_1 : Ovi.Rows) : C (k + 1) 17 [AV.agg [AV.d (D.list 3 a0_0), AV.d (D.list 2 a0_1)]] = bindR ((C k) 47 [AV.agg [AV.d (D.list 3 a0_0), AV.d (D.list 2 a0_1)]]) fun r4 => bindB (resB 1 false 1 r4 0 0) fun b5 => ite' (!b5) (some ([(true, [RL.nil, RL.nil, RL.nil]), (false, [RL.d (D.bool false)])])) (bindR ((C k) 35 [AV.agg [AV.d (D.list 3 a0_0), AV.d (D.list 2 a0_1)]]) fun r6 => bindL (resO 86 3 1 true 2 r6 0 0) fun l7 => bindL (resF 58 2 1 1 true 2 r6 0 1) fun l8 => some ([(true, [RL.frow 86 3 0 l7, RL.frow 58 2 1 l8, RL.nil]), (false, [RL.d (D.bool true)])])) := (show C (k + 1) 17 [AV.agg [AV.d (D.list 3 a0_0), AV.d (D.list 2 a0_1)]] = evFnK P hs (C k) 17 k Try.f17 [AV.agg [AV.d (D.list 3 a0_0), AV.d (D.list 2 a0_1)]] by kernel_rfl).trans (F17.eq k (C k) a0_0 a0_1)
theorem F18.eq (k : Nat) (call : CallF) (a0_0 : Ovi.Rows) (a0_1 : Ovi.Rows) (a0_2 : Ovi.Rows) (a1_0 : Ovi.Rows) (a1_1 : Ovi.Rows) (a1_2 : Ovi.Rows) : evFnK P hs call (18 : FuncId) k Try.f18 [AV.agg [AV.d (D.list 3 a0_0), AV.d (D.list 2 a0_1), AV.d (D.list 3 a0_2)], AV.agg [AV.d (D.list 3 a1_0), AV.d (D.list 2 a1_1), AV.d (D.list 3 a1_2)]] = bindR (call 11 [AV.agg [AV.d (D.list 3 a0_0), AV.d (D.list 2 a0_1)], AV.agg [AV.d (D.list 3 a1_0), AV.d (D.list 2 a1_1)]]) fun r8 => bindB (resB 1 false 1 r8 0 0) fun b9 => ite' (!b9) (some ([(false, [RL.d (D.bool false)])])) (bindR (call 48 [AV.d (D.list 3 a0_2), AV.d (D.list 3 a1_2)]) fun r10 => bindB (resB 1 false 1 r10 0 0) fun b11 => ite' (!b11) (some ([(false, [RL.d (D.bool false)])])) (some ([(false, [RL.d (D.bool true)])]))) := by kernel_rfl
theorem F18.run (k : Nat) (a0_0 : Ovi.Rows) (a0_1 : Ovi.Rows) (a0_2 : Ovi.Rows) (a1_0 : Ovi.Rows) (a1_1 : Ovi.Rows) (a1_2 : Ovi.Rows) : C (k + 1) 18 [AV.agg [AV.d (D.list 3 a0_0), AV.d (D.list 2 a0_1), AV.d (D.list 3 a0_2)], AV.agg [AV.d (D.list 3 a1_0), AV.d (D.list 2 a1_1), AV.d (D.list 3 a1_2)]] = bindR ((C k) 11 [AV.agg [AV.d (D.list 3 a0_0), AV.d (D.list 2 a0_1)], AV.agg [AV.d (D.list 3 a1_0), AV.d (D.list 2 a1_1)]]) fun r8 => bindB (resB 1 false 1 r8 0 0) fun b9 => ite' (!b9) (some ([(false, [RL.d (D.bool false)])])) (bindR ((C k) 48 [AV.d (D.list 3 a0_2), AV.d (D.list 3 a1_2)]) fun r10 => bindB (resB 1 false 1 r10 0 0) fun b11 => ite' (!b11) (some ([(false, [RL.d (D.bool false)])])) (some ([(false, [RL.d (D.bool true)])]))) := (show C (k + 1) 18 [AV.agg [AV.d (D.list 3 a0_0), AV.d (D.list 2 a0_1), AV.d (D.list 3 a0_2)], AV.agg [AV.d (D.list 3 a1_0), AV.d (D.list 2 a1_1), AV.d (D.list 3 a1_2)]] = evFnK P hs (C k) 18 k Try.f18 [AV.agg [AV.d (D.list 3 a0_0), AV.d (D.list 2 a0_1), AV.d (D.list 3 a0_2)], AV.agg [AV.d (D.list 3 a1_0), AV.d (D.list 2 a1_1), AV.d (D.list 3 a1_2)]] by kernel_rfl).trans (F18.eq k (C k) a0_0 a0_1 a0_2 a1_0 a1_1 a1_2)
theorem F20.eq (k : Nat) (call : CallF) (a0_0 : Ovi.Rows) (a0_1 : Ovi.Rows) (a0_2 : Ovi.Rows) (a1 : Int) : evFnK P hs call (20 : FuncId) k Try.f20 [AV.agg [AV.d (D.list 3 a0_0), AV.d (D.list 2 a0_1), AV.d (D.list 3 a0_2)], AV.d (D.int IntKind.i64 a1)] = bindR (call 15 [AV.agg [AV.d (D.list 3 a0_0), AV.d (D.list 2 a0_1)], AV.d (D.int IntKind.i64 a1)]) fun r6 => bindI (resI IntKind.i64 1 false 1 r6 0 0) fun n7 => ite' (decide (n7 < (0 : Int))) (some ([(false, [RL.d (D.int IntKind.i64 (-1 : Int))])])) (bindR (call 50 [AV.d (D.list 3 a0_2), AV.d (D.int IntKind.i64 n7)]) fun r8 => bindI (resI IntKind.i64 1 false 1 r8 0 0) fun n9 => ite' (decide (n9 < (0 : Int))) (some ([(false, [RL.d (D.int IntKind.i64 (-1 : Int))])])) (some ([(false, [RL.d (D.int IntKind.i64 n9)])]))) := by kernel_rfl
theorem F20.run (k : Nat) (a0_0 : Ovi.Rows) (a0_1 : Ovi.Rows) (a0_2 : Ovi.Rows) (a1 : Int) : C (k + 1) 20 [AV.agg [AV.d (D.list 3 a0_0), AV.d (D.list 2 a0_1), AV.d (D.list 3 a0_2)], AV.d (D.int IntKind.i64 a1)] = bindR ((C k) 15 [AV.agg [AV.d (D.list 3 a0_0), AV.d (D.list 2 a0_1)], AV.d (D.int IntKind.i64 a1)]) fun r6 => bindI (resI IntKind.i64 1 false 1 r6 0 0) fun n7 => ite' (decide (n7 < (0 : Int))) (some ([(false, [RL.d (D.int IntKind.i64 (-1 : Int))])])) (bindR ((C k) 50 [AV.d (D.list 3 a0_2), AV.d (D.int IntKind.i64 n7)]) fun r8 => bindI (resI IntKind.i64 1 false 1 r8 0 0) fun n9 => ite' (decide (n9 < (0 : Int))) (some ([(false, [RL.d (D.int IntKind.i64 (-1 : Int))])])) (some ([(false, [RL.d (D.int IntKind.i64 n9)])]))) := (show C (k + 1) 20 [AV.agg [AV.d (D.list 3 a0_0), AV.d (D.list 2 a0_1), AV.d (D.list 3 a0_2)], AV.d (D.int IntKind.i64 a1)] = evFnK P hs (C k) 20 k Try.f20 [AV.agg [AV.d (D.list 3 a0_0), AV.d (D.list 2 a0_1), AV.d (D.list 3 a0_2)], AV.d (D.int IntKind.i64 a1)] by kernel_rfl).trans (F20.eq k (C k) a0_0 a0_1 a0_2 a1)
noncomputable def F21.L7 (k : Nat) (call : CallF)  (n : Nat) (v0 : Ovi.Rows) (v1 : Int) (v2 : Ovi.Rows) (v3 : Ovi.Rows) (v4 : List (List D)) (v5 : List (List D)) : Option Res := loopFn P hs call 21 k Try.f21 [1, 1, 1, 1, 1, 0, 1, 0] [] n [(1, AV.var 64 0), (3, AV.own 100003 0), (4, AV.d (D.list 1 v0)), (5, AV.own 100005 0), (6, AV.d (D.int IntKind.i64 v1))] [(64, Blk.var [AV.d (D.list 3 v2), AV.d (D.list 2 v3)]), (100003, Blk.arr 26 1 0 v4 (1, 0, 0)), (100005, Blk.arr 3 1 0 v5 (0, 0, 0))]
noncomputable def F21.L11 (k : Nat) (call : CallF)  (n : Nat) (v0 : Ovi.Rows) (v1 : Int) (v2 : Ovi.Rows) (v3 : Ovi.Rows) (v4 : List (List D)) (v5 : List (List D)) : Option Res := loopFn P hs call 21 k Try.f21 [1, 1, 1, 1, 1, 1, 0, 1, 0] [] n [(1, AV.var 64 0), (3, AV.own 100003 0), (4, AV.d (D.list 1 v0)), (5, AV.own 100005 0), (7, AV.d (D.int IntKind.i64 v1))] [(64, Blk.var [AV.d (D.list 3 v2), AV.d (D.list 2 v3)]), (100003, Blk.arr 26 1 0 v4 (1, 0, 0)), (100005, Blk.arr 3 1 0 v5 (0, 0, 0))]
noncomputable def F21.L14 (k : Nat) (call : CallF) (k11 : Nat) (n : Nat) (v0 : Ovi.Rows) (v1 : Int) (v2 : Int) (v3 : Ovi.Rows) (v4 : Ovi.Rows) (v5 : List (List D)) (v6 : List (List D)) : Option Res := loopFn P hs call 21 k Try.f21 [1, 1, 1, 1, 1, 1, 0, 1, 0, 0, 1, 0, 0, 1, 0] [k11] n [(1, AV.var 64 0), (3, AV.own 100003 0), (4, AV.d (D.list 1 v0)), (5, AV.own 100005 0), (7, AV.d (D.int IntKind.i64 v1)), (8, AV.d (D.int IntKind.i64 v2))] [(64, Blk.var [AV.d (D.list 3 v3), AV.d (D.list 2 v4)]), (100003, Blk.arr 26 1 0 v5 (1, 0, 0)), (100005, Blk.arr 3 1 0 v6 (0, 0, 0))]
noncomputable def F21.L27 (k : Nat) (call : CallF)  (n : Nat) (v0 : Ovi.Rows) (v1 : Int) (v2 : List (List D)) (v3 : List (List D)) : Option Res := loopFn P hs call 21 k Try.f21 [1, 1, 1, 1, 1, 1, 1, 0, 1, 0] [] n [(3, AV.own 100003 0), (4, AV.d (D.list 1 v0)), (5, AV.own 100005 0), (13, AV.d (D.int IntKind.i64 v1))] [(100003, Blk.arr 26 1 0 v2 (1, 0, 0)), (100005, Blk.arr 3 1 0 v3 (0, 0, 0))]
noncomputable def F21.L19 (k : Nat) (call : CallF) (k11 : Nat) (k14 : Nat) (n : Nat) (v0 : Ovi.Rows) (v1 : Int) (v2 : Int) (v3 : Ovi.Rows) (v4 : Int) (v5 : Int) (v6 : Ovi.Rows) (v7 : Ovi.Rows) (v8 : List (List D)) (v9 : List (List D)) : Option Res := loopFn P hs call 21 k Try.f21 [1, 1, 1, 1, 1, 1, 0, 1, 0, 0, 1, 0, 0, 1, 0, 0, 1, 0, 0, 1, 1, 0, 1, 0] [k11, k14] n [(1, AV.var 64 0), (3, AV.own 100003 0), (4, AV.d (D.list 1 v0)), (5, AV.own 100005 0), (7, AV.d (D.int IntKind.i64 v1)), (8, AV.d (D.int IntKind.i64 v2)), (9, AV.d (D.list 1 v3)), (10, AV.d (D.int IntKind.i64 v4)), (11, AV.d (D.int IntKind.i64 v5))] [(64, Blk.var [AV.d (D.list 3 v6), AV.d (D.list 2 v7)]), (100003, Blk.arr 26 1 0 v8 (1, 0, 0)), (100005, Blk.arr 3 1 0 v9 (0, 0, 0))]
noncomputable def F21.L31 (k : Nat) (call : CallF) (k27 : Nat) (n : Nat) (v0 : Ovi.Rows) (v1 : Int) (v2 : Int) (v3 : List (List D)) (v4 : List (List D)) (v5 : List (List D)) : Option Res := loopFn P hs call 21 k Try.f21 [1, 1, 1, 1, 1, 1, 1, 0, 1, 0, 0, 1, 0, 0, 1, 0, 1, 0] [k27] n [(3, AV.own 100003 0), (4, AV.d (D.list 1 v0)), (5, AV.own 100005 0), (13, AV.d (D.int IntKind.i64 v1)), (14, AV.own 100014 0), (15, AV.d (D.int IntKind.i64 v2))] [(100003, Blk.arr 26 1 0 v3 (1, 0, 0)), (100005, Blk.arr 3 1 0 v4 (0, 0, 0)), (100014, Blk.arr 3 1 0 v5 (0, 0, 0))]
noncomputable def F21.L23 (k : Nat) (call : CallF) (k11 : Nat) (k14 : Nat) (n : Nat) (v0 : Ovi.Rows) (v1 : Int) (v2 : Int) (v3 : Ovi.Rows) (v4 : Int) (v5 : Int) (v6 : Ovi.Rows) (v7 : Ovi.Rows) (v8 : List (List D)) (v9 : List (List D)) : Option Res := loopFn P hs call 21 k Try.f21 [1, 1, 1, 1, 1, 1, 0, 1, 0, 0, 1, 0, 0, 1, 0, 0, 1, 0, 0, 1, 1, 1, 1, 0] [k11, k14] n [(1, AV.var 64 0), (3, AV.own 100003 0), (4, AV.d (D.list 1 v0)), (5, AV.own 100005 0), (7, AV.d (D.int IntKind.i64 v1)), (8, AV.d (D.int IntKind.i64 v2)), (9, AV.d (D.list 1 v3)), (10, AV.d (D.int IntKind.i64 v4)), (12, AV.d (D.int IntKind.i64 v5))] [(64, Blk.var [AV.d (D.list 3 v6), AV.d (D.list 2 v7)]), (100003, Blk.arr 26 1 0 v8 (1, 0, 0)), (100005, Blk.arr 3 1 0 v9 (0, 0, 0))]
theorem F21.L7.zero (k : Nat) (call : CallF)  (v0 : Ovi.Rows) (v1 : Int) (v2 : Ovi.Rows) (v3 : Ovi.Rows) (v4 : List (List D)) (v5 : List (List D)) : F21.L7 k call  0 v0 v1 v2 v3 v4 v5 = none := by kernel_rfl
theorem F21.L7.succ (k : Nat) (call : CallF)  (n : Nat) (v0 : Ovi.Rows) (v1 : Int) (v2 : Ovi.Rows) (v3 : Ovi.Rows) (v4 : List (List D)) (v5 : List (List D)) : F21.L7 k call  (n + 1) v0 v1 v2 v3 v4 v5 = ite' (decide (v1 < (40 : Int))) (ite' (inR v1 v5.length) (F21.L7 k call  (n) (v0) (IntKind.i64.wrap (v1 + (1 : Int))) (v2) (v3) (v4) (rowsSet v5 v1.toNat 0 [D.int IntKind.i64 v1])) (none)) (F21.L11 k call  (k) (v0) ((0 : Int)) (v2) (v3) (v4) (v5)) := by kernel_rfl
theorem F21.L11.zero (k : Nat) (call : CallF)  (v0 : Ovi.Rows) (v1 : Int) (v2 : Ovi.Rows) (v3 : Ovi.Rows) (v4 : List (List D)) (v5 : List (List D)) : F21.L11 k call  0 v0 v1 v2 v3 v4 v5 = none := by kernel_rfl
theorem F21.L11.succ (k : Nat) (call : CallF)  (n : Nat) (v0 : Ovi.Rows) (v1 : Int) (v2 : Ovi.Rows) (v3 : Ovi.Rows) (v4 : List (List D)) (v5 : List (List D)) : F21.L11 k call  (n + 1) v0 v1 v2 v3 v4 v5 = ite' (decide (v1 < (↑(List.length v0) : Int))) (F21.L14 k call n (k) (v0) (v1) ((0 : Int)) (v2) (v3) (v4) (v5)) (F21.L27 k call  (k) (v0) ((0 : Int)) (v4) (v5)) := by kernel_rfl
theorem F21.L14.zero (k : Nat) (call : CallF) (k11 : Nat) (v0 : Ovi.Rows) (v1 : Int) (v2 : Int) (v3 : Ovi.Rows) (v4 : Ovi.Rows) (v5 : List (List D)) (v6 : List (List D)) : F21.L14 k call k11 0 v0 v1 v2 v3 v4 v5 v6 = none := by kernel_rfl
theorem F21.L14.succ (k : Nat) (call : CallF) (k11 : Nat) (n : Nat) (v0 : Ovi.Rows) (v1 : Int) (v2 : Int) (v3 : Ovi.Rows) (v4 : Ovi.Rows) (v5 : List (List D)) (v6 : List (List D)) : F21.L14 k call k11 (n + 1) v0 v1 v2 v3 v4 v5 v6 = ite' (decide (v2 < (↑(List.length v4) : Int))) (ite' (inR v2 (List.length v4)) (bindI (cellI IntKind.i64 v4 v2.toNat 0) fun n13 => bindL (cellL 1 v4 v2.toNat 1) fun l14 => bindR (call 29 [AV.agg [AV.d (D.int IntKind.i64 n13), AV.d (D.list 1 l14)]]) fun r15 => bindL (resL 1 1 false 1 r15 0 0) fun l16 => F21.L19 k call k11 n (k) (v0) (v1) (v2) (l16) ((40 : Int)) ((0 : Int)) (v3) (v4) (v5) (v6)) (none)) (F21.L11 k call  (k11) (v0) (IntKind.i64.wrap (v1 + (1 : Int))) (v3) (v4) (v5) (v6)) := by kernel_rfl
theorem F21.L27.zero (k : Nat) (call : CallF)  (v0 : Ovi.Rows) (v1 : Int) (v2 : List (List D)) (v3 : List (List D)) : F21.L27 k call  0 v0 v1 v2 v3 = none := by kernel_rfl
theorem F21.L27.succ (k : Nat) (call : CallF)  (n : Nat) (v0 : Ovi.Rows) (v1 : Int) (v2 : List (List D)) (v3 : List (List D)) : F21.L27 k call  (n + 1) v0 v1 v2 v3 = ite' (decide (v1 < (↑(List.length v0) : Int))) (F21.L31 k call n (k) (v0) (v1) ((0 : Int)) (v2) (v3) ([])) (some ([(false, [RL.frow 26 1 1 v2])])) := by kernel_rfl
theorem F21.L19.zero (k : Nat) (call : CallF) (k11 : Nat) (k14 : Nat) (v0 : Ovi.Rows) (v1 : Int) (v2 : Int) (v3 : Ovi.Rows) (v4 : Int) (v5 : Int) (v6 : Ovi.Rows) (v7 : Ovi.Rows) (v8 : List (List D)) (v9 : List (List D)) : F21.L19 k call k11 k14 0 v0 v1 v2 v3 v4 v5 v6 v7 v8 v9 = none := by kernel_rfl
theorem F21.L19.succ (k : Nat) (call : CallF) (k11 : Nat) (k14 : Nat) (n : Nat) (v0 : Ovi.Rows) (v1 : Int) (v2 : Int) (v3 : Ovi.Rows) (v4 : Int) (v5 : Int) (v6 : Ovi.Rows) (v7 : Ovi.Rows) (v8 : List (List D)) (v9 : List (List D)) : F21.L19 k call k11 k14 (n + 1) v0 v1 v2 v3 v4 v5 v6 v7 v8 v9 = ite' (decide (v5 < (↑(List.length v3) : Int))) (ite' (inR v5 (List.length v3)) (bindI (cellI IntKind.i64 v3 v5.toNat 0) fun n17 => ite' (inR n17 v9.length) (bindI (cellI IntKind.i64 v9 n17.toNat 0) fun n18 => F21.L19 k call k11 k14 (n) (v0) (v1) (v2) (v3) (minI v4 n18) (IntKind.i64.wrap (v5 + (1 : Int))) (v6) (v7) (v8) (v9)) (none)) (none)) (F21.L23 k call k11 k14 (k) (v0) (v1) (v2) (v3) (v4) ((0 : Int)) (v6) (v7) (v8) (v9)) := by kernel_rfl
theorem F21.L31.zero (k : Nat) (call : CallF) (k27 : Nat) (v0 : Ovi.Rows) (v1 : Int) (v2 : Int) (v3 : List (List D)) (v4 : List (List D)) (v5 : List (List D)) : F21.L31 k call k27 0 v0 v1 v2 v3 v4 v5 = none := by kernel_rfl
theorem F21.L31.succ (k : Nat) (call : CallF) (k27 : Nat) (n : Nat) (v0 : Ovi.Rows) (v1 : Int) (v2 : Int) (v3 : List (List D)) (v4 : List (List D)) (v5 : List (List D)) : F21.L31 k call k27 (n + 1) v0 v1 v2 v3 v4 v5 = ite' (decide (v2 < (↑(List.length v0) : Int))) (ite' (inR v2 (List.length v0)) (bindI (cellI IntKind.i64 v0 v2.toNat 0) fun n12 => ite' (inR n12 v4.length) (bindI (cellI IntKind.i64 v4 n12.toNat 0) fun n13 => ite' (inR v1 (List.length v0)) (bindI (cellI IntKind.i64 v0 v1.toNat 0) fun n14 => ite' (n13 == n14) (ite' (inR v2 (List.length v0)) (bindI (cellI IntKind.i64 v0 v2.toNat 0) fun n15 => ite' (fits (v5.length + [[D.int IntKind.i64 n15]].length)) (F21.L31 k call k27 (n) (v0) (v1) (IntKind.i64.wrap (v2 + (1 : Int))) (v3) (v4) (v5 ++ [[D.int IntKind.i64 n15]])) (none)) (none)) (F21.L31 k call k27 (n) (v0) (v1) (IntKind.i64.wrap (v2 + (1 : Int))) (v3) (v4) (v5))) (none)) (none)) (none)) (ite' (decide ((↑v5.length : Int) > (0 : Int))) (ite' (fits (v3.length + [[D.list 1 v5]].length)) (F21.L27 k call  (k27) (v0) (IntKind.i64.wrap (v1 + (1 : Int))) (v3 ++ [[D.list 1 v5]]) (v4)) (none)) (F21.L27 k call  (k27) (v0) (IntKind.i64.wrap (v1 + (1 : Int))) (v3) (v4))) := by kernel_rfl
theorem F21.L23.zero (k : Nat) (call : CallF) (k11 : Nat) (k14 : Nat) (v0 : Ovi.Rows) (v1 : Int) (v2 : Int) (v3 : Ovi.Rows) (v4 : Int) (v5 : Int) (v6 : Ovi.Rows) (v7 : Ovi.Rows) (v8 : List (List D)) (v9 : List (List D)) : F21.L23 k call k11 k14 0 v0 v1 v2 v3 v4 v5 v6 v7 v8 v9 = none := by kernel_rfl
theorem F21.L23.succ (k : Nat) (call : CallF) (k11 : Nat) (k14 : Nat) (n : Nat) (v0 : Ovi.Rows) (v1 : Int) (v2 : Int) (v3 : Ovi.Rows) (v4 : Int) (v5 : Int) (v6 : Ovi.Rows) (v7 : Ovi.Rows) (v8 : List (List D)) (v9 : List (List D)) : F21.L23 k call k11 k14 (n + 1) v0 v1 v2 v3 v4 v5 v6 v7 v8 v9 = ite' (decide (v5 < (↑(List.length v3) : Int))) (ite' (inR v5 (List.length v3)) (bindI (cellI IntKind.i64 v3 v5.toNat 0) fun n17 => ite' (inR n17 v9.length) (F21.L23 k call k11 k14 (n) (v0) (v1) (v2) (v3) (v4) (IntKind.i64.wrap (v5 + (1 : Int))) (v6) (v7) (v8) (rowsSet v9 n17.toNat 0 [D.int IntKind.i64 v4])) (none)) (none)) (F21.L14 k call k11 (k14) (v0) (v1) (IntKind.i64.wrap (v2 + (1 : Int))) (v6) (v7) (v8) (v9)) := by kernel_rfl
theorem F21.eq (k : Nat) (call : CallF) (a0_0 : Ovi.Rows) (a0_1 : Ovi.Rows) : evFnK P hs call (21 : FuncId) k Try.f21 [AV.agg [AV.d (D.list 3 a0_0), AV.d (D.list 2 a0_1)]] = bindR (call 28 [AV.agg [AV.d (D.list 3 a0_0), AV.d (D.list 2 a0_1)]]) fun r4 => bindB (resB 1 false 1 r4 0 0) fun b5 => ite' (!b5) (some ([(false, [RL.nil])])) (bindR (call 51 [AV.agg [AV.d (D.list 3 a0_0), AV.d (D.list 2 a0_1)]]) fun r6 => bindL (resL 1 1 false 1 r6 0 0) fun l7 => F21.L7 k call  (k) (l7) ((0 : Int)) (a0_0) (a0_1) ([]) ([[D.int IntKind.i64 (0 : Int)], [D.int IntKind.i64 (0 : Int)], [D.int IntKind.i64 (0 : Int)], [D.int IntKind.i64 (0 : Int)], [D.int IntKind.i64 (0 : Int)], [D.int IntKind.i64 (0 : Int)], [D.int IntKind.i64 (0 : Int)], [D.int IntKind.i64 (0 : Int)], [D.int IntKind.i64 (0 : Int)], [D.int IntKind.i64 (0 : Int)], [D.int IntKind.i64 (0 : Int)], [D.int IntKind.i64 (0 : Int)], [D.int IntKind.i64 (0 : Int)], [D.int IntKind.i64 (0 : Int)], [D.int IntKind.i64 (0 : Int)], [D.int IntKind.i64 (0 : Int)], [D.int IntKind.i64 (0 : Int)], [D.int IntKind.i64 (0 : Int)], [D.int IntKind.i64 (0 : Int)], [D.int IntKind.i64 (0 : Int)], [D.int IntKind.i64 (0 : Int)], [D.int IntKind.i64 (0 : Int)], [D.int IntKind.i64 (0 : Int)], [D.int IntKind.i64 (0 : Int)], [D.int IntKind.i64 (0 : Int)], [D.int IntKind.i64 (0 : Int)], [D.int IntKind.i64 (0 : Int)], [D.int IntKind.i64 (0 : Int)], [D.int IntKind.i64 (0 : Int)], [D.int IntKind.i64 (0 : Int)], [D.int IntKind.i64 (0 : Int)], [D.int IntKind.i64 (0 : Int)], [D.int IntKind.i64 (0 : Int)], [D.int IntKind.i64 (0 : Int)], [D.int IntKind.i64 (0 : Int)], [D.int IntKind.i64 (0 : Int)], [D.int IntKind.i64 (0 : Int)], [D.int IntKind.i64 (0 : Int)], [D.int IntKind.i64 (0 : Int)], [D.int IntKind.i64 (0 : Int)]])) := by kernel_rfl
theorem F21.run (k : Nat) (a0_0 : Ovi.Rows) (a0_1 : Ovi.Rows) : C (k + 1) 21 [AV.agg [AV.d (D.list 3 a0_0), AV.d (D.list 2 a0_1)]] = bindR ((C k) 28 [AV.agg [AV.d (D.list 3 a0_0), AV.d (D.list 2 a0_1)]]) fun r4 => bindB (resB 1 false 1 r4 0 0) fun b5 => ite' (!b5) (some ([(false, [RL.nil])])) (bindR ((C k) 51 [AV.agg [AV.d (D.list 3 a0_0), AV.d (D.list 2 a0_1)]]) fun r6 => bindL (resL 1 1 false 1 r6 0 0) fun l7 => F21.L7 k (C k)  (k) (l7) ((0 : Int)) (a0_0) (a0_1) ([]) ([[D.int IntKind.i64 (0 : Int)], [D.int IntKind.i64 (0 : Int)], [D.int IntKind.i64 (0 : Int)], [D.int IntKind.i64 (0 : Int)], [D.int IntKind.i64 (0 : Int)], [D.int IntKind.i64 (0 : Int)], [D.int IntKind.i64 (0 : Int)], [D.int IntKind.i64 (0 : Int)], [D.int IntKind.i64 (0 : Int)], [D.int IntKind.i64 (0 : Int)], [D.int IntKind.i64 (0 : Int)], [D.int IntKind.i64 (0 : Int)], [D.int IntKind.i64 (0 : Int)], [D.int IntKind.i64 (0 : Int)], [D.int IntKind.i64 (0 : Int)], [D.int IntKind.i64 (0 : Int)], [D.int IntKind.i64 (0 : Int)], [D.int IntKind.i64 (0 : Int)], [D.int IntKind.i64 (0 : Int)], [D.int IntKind.i64 (0 : Int)], [D.int IntKind.i64 (0 : Int)], [D.int IntKind.i64 (0 : Int)], [D.int IntKind.i64 (0 : Int)], [D.int IntKind.i64 (0 : Int)], [D.int IntKind.i64 (0 : Int)], [D.int IntKind.i64 (0 : Int)], [D.int IntKind.i64 (0 : Int)], [D.int IntKind.i64 (0 : Int)], [D.int IntKind.i64 (0 : Int)], [D.int IntKind.i64 (0 : Int)], [D.int IntKind.i64 (0 : Int)], [D.int IntKind.i64 (0 : Int)], [D.int IntKind.i64 (0 : Int)], [D.int IntKind.i64 (0 : Int)], [D.int IntKind.i64 (0 : Int)], [D.int IntKind.i64 (0 : Int)], [D.int IntKind.i64 (0 : Int)], [D.int IntKind.i64 (0 : Int)], [D.int IntKind.i64 (0 : Int)], [D.int IntKind.i64 (0 : Int)]])) := (show C (k + 1) 21 [AV.agg [AV.d (D.list 3 a0_0), AV.d (D.list 2 a0_1)]] = evFnK P hs (C k) 21 k Try.f21 [AV.agg [AV.d (D.list 3 a0_0), AV.d (D.list 2 a0_1)]] by kernel_rfl).trans (F21.eq k (C k) a0_0 a0_1)
noncomputable def F22.L5 (k : Nat) (call : CallF)  (n : Nat) (v0 : Ovi.Rows) (v1 : Int) (v2 : Int) (v3 : List (List D)) : Option Res := loopFn P hs call 22 k Try.f22 [1, 1, 1, 0, 1, 0] [] n [(3, AV.own 100003 0), (16, AV.d (D.list 2 v0)), (17, AV.d (D.int IntKind.i64 v1)), (18, AV.d (D.int IntKind.i64 v2))] [(100003, Blk.arr 26 1 0 v3 (1, 0, 0))]
noncomputable def F22.L11 (k : Nat) (call : CallF) (k5 : Nat) (n : Nat) (v0 : Ovi.Rows) (v1 : Int) (v2 : Int) (v3 : Int) (v4 : Int) (v5 : Ovi.Rows) (v6 : List (List D)) (v7 : List (List D)) (v8 : Nat) : Option Res := loopFn P hs call 22 k Try.f22 [1, 1, 1, 0, 1, 0, 0, 1, 1, 0, 0, 1, 1, 1, 1, 0, 1, 0] [k5] n [(6, AV.var 384 0), (7, AV.own 100007 0), (16, AV.d (D.list 2 v0)), (17, AV.d (D.int IntKind.i64 v1)), (18, AV.d (D.int IntKind.i64 v2)), (28, AV.own 100028 0), (29, AV.d (D.int IntKind.i64 v3)), (30, AV.d (D.int IntKind.i64 v4))] [(384, Blk.var [AV.own 200096 0]), (200096, Blk.arr 3 1 0 v5 (0, 0, 0)), (100007, Blk.arr 26 1 0 v6 (1, 0, 0)), (100028, Blk.arr 26 1 0 v7 (1, v8, 0))]
theorem F22.L5.zero (k : Nat) (call : CallF)  (v0 : Ovi.Rows) (v1 : Int) (v2 : Int) (v3 : List (List D)) : F22.L5 k call  0 v0 v1 v2 v3 = none := by kernel_rfl
theorem F22.L5.succ (k : Nat) (call : CallF)  (n : Nat) (v0 : Ovi.Rows) (v1 : Int) (v2 : Int) (v3 : List (List D)) : F22.L5 k call  (n + 1) v0 v1 v2 v3 = ite' (decide (v2 < v1)) (ite' (inR v2 (List.length v0)) (bindI (cellI IntKind.i64 v0 v2.toNat 0) fun n9 => bindL (cellL 1 v0 v2.toNat 1) fun l10 => bindR (call 52 [AV.agg [AV.d (D.int IntKind.i64 n9), AV.d (D.list 1 l10)]]) fun r11 => bindL (resO 3 1 1 false 1 r11 0 0) fun l12 => ite' ((↑(List.length l12) : Int) == (0 : Int)) (F22.L5 k call  (n) (v0) (v1) (IntKind.i64.wrap (v2 + (1 : Int))) (v3)) (F22.L11 k call n (k) (v0) (v1) (v2) ((↑v3.length : Int)) ((0 : Int)) (l12) ([]) (v3) 0)) (none)) (bindR (call 58 [AV.var 0 0, AV.d (D.int IntKind.i64 (↑26 : Int)), AV.d (D.list 1 v3), AV.d (D.fn 59 [])]) fun r9 => bindL (resF 26 1 0 1 false 1 r9 0 0) fun l10 => some ([(false, [RL.frow 26 1 1 l10])])) := by kernel_rfl
theorem F22.L11.zero (k : Nat) (call : CallF) (k5 : Nat) (v0 : Ovi.Rows) (v1 : Int) (v2 : Int) (v3 : Int) (v4 : Int) (v5 : Ovi.Rows) (v6 : List (List D)) (v7 : List (List D)) (v8 : Nat) : F22.L11 k call k5 0 v0 v1 v2 v3 v4 v5 v6 v7 v8 = none := by kernel_rfl
theorem F22.L11.succ (k : Nat) (call : CallF) (k5 : Nat) (n : Nat) (v0 : Ovi.Rows) (v1 : Int) (v2 : Int) (v3 : Int) (v4 : Int) (v5 : Ovi.Rows) (v6 : List (List D)) (v7 : List (List D)) (v8 : Nat) : F22.L11 k call k5 (n + 1) v0 v1 v2 v3 v4 v5 v6 v7 v8 = ite' (decide (v4 < v3)) (ite' (inR v4 v7.length) (bindL (cellL 1 v7 v4.toNat 0) fun l15 => bindR (call 53 [AV.d (D.list 1 l15), AV.d (D.fn 54 [[D.list 1 v5]])]) fun r16 => bindB (resB 1 false 1 r16 0 0) fun b17 => ite' (b17) (ite' (fits (List.length v5 + List.length l15)) (F22.L11 k call k5 (n) (v0) (v1) (v2) (v3) (IntKind.i64.wrap (v4 + (1 : Int))) (v5 ++ l15) (v6) (v7) ((v8, 0).fst)) (none)) (ite' (v8.ble v4.toNat) (ite' (fits (v6.length + [[D.list 1 l15]].length)) (F22.L11 k call k5 (n) (v0) (v1) (v2) (v3) (IntKind.i64.wrap (v4 + (1 : Int))) (v5) (v6 ++ [[D.list 1 l15]]) (v7) ((v4.toNat + 1, 0).fst)) (none)) (ite' (fits (v6.length + [[D.list 1 l15]].length)) (none) (none)))) (none)) (bindR (call 56 [AV.var 0 0, AV.d (D.int IntKind.i64 (↑3 : Int)), AV.d (D.list 1 v5)]) fun r15 => bindL (resO 3 1 1 false 1 r15 0 0) fun l16 => bindR (call 57 [AV.var 0 0, AV.d (D.int IntKind.i64 (↑3 : Int)), AV.d (D.list 1 l16)]) fun r17 => bindL (resO 3 1 2 false 1 r17 0 0) fun l18 => ite' (fits (v6.length + [[D.list 1 l18]].length)) (F22.L5 k call  (k5) (v0) (v1) (IntKind.i64.wrap (v2 + (1 : Int))) (v6 ++ [[D.list 1 l18]])) (none)) := by kernel_rfl
theorem F22.eq (k : Nat) (call : CallF) (a0_0 : Ovi.Rows) (a0_1 : Ovi.Rows) : evFnK P hs call (22 : FuncId) k Try.f22 [AV.agg [AV.d (D.list 3 a0_0), AV.d (D.list 2 a0_1)]] = bindR (call 34 [AV.agg [AV.d (D.list 3 a0_0), AV.d (D.list 2 a0_1)]]) fun r4 => bindB (resB 1 false 1 r4 0 0) fun b5 => ite' (!b5) (some ([(false, [RL.nil])])) (F22.L5 k call  (k) (a0_1) ((↑(List.length a0_1) : Int)) ((0 : Int)) ([])) := by kernel_rfl
theorem F22.run (k : Nat) (a0_0 : Ovi.Rows) (a0_1 : Ovi.Rows) : C (k + 1) 22 [AV.agg [AV.d (D.list 3 a0_0), AV.d (D.list 2 a0_1)]] = bindR ((C k) 34 [AV.agg [AV.d (D.list 3 a0_0), AV.d (D.list 2 a0_1)]]) fun r4 => bindB (resB 1 false 1 r4 0 0) fun b5 => ite' (!b5) (some ([(false, [RL.nil])])) (F22.L5 k (C k)  (k) (a0_1) ((↑(List.length a0_1) : Int)) ((0 : Int)) ([])) := (show C (k + 1) 22 [AV.agg [AV.d (D.list 3 a0_0), AV.d (D.list 2 a0_1)]] = evFnK P hs (C k) 22 k Try.f22 [AV.agg [AV.d (D.list 3 a0_0), AV.d (D.list 2 a0_1)]] by kernel_rfl).trans (F22.eq k (C k) a0_0 a0_1)
noncomputable def F23.L4 (k : Nat) (call : CallF)  (n : Nat) (v0 : Ovi.Rows) (v1 : Ovi.Rows) (v2 : Int) : Option Res := loopFn P hs call 23 k Try.f23 [1, 1, 0, 1, 0] [] n [(0, AV.d (D.list 1 v0)), (1, AV.d (D.list 1 v1)), (5, AV.d (D.int IntKind.i64 v2))] []
theorem F23.L4.zero (k : Nat) (call : CallF)  (v0 : Ovi.Rows) (v1 : Ovi.Rows) (v2 : Int) : F23.L4 k call  0 v0 v1 v2 = none := by kernel_rfl
theorem F23.L4.succ (k : Nat) (call : CallF)  (n : Nat) (v0 : Ovi.Rows) (v1 : Ovi.Rows) (v2 : Int) : F23.L4 k call  (n + 1) v0 v1 v2 = ite' (decide (v2 < (↑(List.length v0) : Int))) (ite' (inR v2 (List.length v0)) (bindL (cellL 1 v0 v2.toNat 0) fun l8 => ite' (inR v2 (List.length v1)) (bindL (cellL 1 v1 v2.toNat 0) fun l9 => bindR (call 12 [AV.d (D.list 1 l8), AV.d (D.list 1 l9)]) fun r10 => bindB (resB 1 false 1 r10 0 0) fun b11 => ite' (!b11) (some ([(false, [RL.d (D.bool false)])])) (F23.L4 k call  (n) (v0) (v1) (IntKind.i64.wrap (v2 + (1 : Int))))) (none)) (none)) (some ([(false, [RL.d (D.bool true)])])) := by kernel_rfl
theorem F23.eq (k : Nat) (call : CallF) (a0 : Ovi.Rows) (a1 : Ovi.Rows) : evFnK P hs call (23 : FuncId) k Try.f23 [AV.d (D.list 1 a0), AV.d (D.list 1 a1)] = ite' ((↑(List.length a0) : Int) != (↑(List.length a1) : Int)) (some ([(false, [RL.d (D.bool false)])])) (F23.L4 k call  (k) (a0) (a1) ((0 : Int))) := by kernel_rfl
theorem F23.run (k : Nat) (a0 : Ovi.Rows) (a1 : Ovi.Rows) : C (k + 1) 23 [AV.d (D.list 1 a0), AV.d (D.list 1 a1)] = ite' ((↑(List.length a0) : Int) != (↑(List.length a1) : Int)) (some ([(false, [RL.d (D.bool false)])])) (F23.L4 k (C k)  (k) (a0) (a1) ((0 : Int))) := (show C (k + 1) 23 [AV.d (D.list 1 a0), AV.d (D.list 1 a1)] = evFnK P hs (C k) 23 k Try.f23 [AV.d (D.list 1 a0), AV.d (D.list 1 a1)] by kernel_rfl).trans (F23.eq k (C k) a0 a1)
noncomputable def F25.L2 (k : Nat) (call : CallF)  (n : Nat) (v0 : Ovi.Rows) (v1 : Int) (v2 : Int) : Option Res := loopFn P hs call 25 k Try.f25 [1, 0, 1, 0] [] n [(0, AV.d (D.list 1 v0)), (1, AV.d (D.int IntKind.i64 v1)), (5, AV.d (D.int IntKind.i64 v2))] []
theorem F25.L2.zero (k : Nat) (call : CallF)  (v0 : Ovi.Rows) (v1 : Int) (v2 : Int) : F25.L2 k call  0 v0 v1 v2 = none := by kernel_rfl
theorem F25.L2.succ (k : Nat) (call : CallF)  (n : Nat) (v0 : Ovi.Rows) (v1 : Int) (v2 : Int) : F25.L2 k call  (n + 1) v0 v1 v2 = ite' (decide (v2 < (↑(List.length v0) : Int))) (ite' (inR v2 (List.length v0)) (bindL (cellL 1 v0 v2.toNat 0) fun l8 => bindR (call 60 [AV.d (D.list 1 l8), AV.d (D.int IntKind.i64 v1)]) fun r9 => bindI (resI IntKind.i64 1 false 1 r9 0 0) fun n10 => ite' (decide (n10 < (0 : Int))) (some ([(false, [RL.d (D.int IntKind.i64 (-1 : Int))])])) (F25.L2 k call  (n) (v0) (n10) (IntKind.i64.wrap (v2 + (1 : Int))))) (none)) (some ([(false, [RL.d (D.int IntKind.i64 v1)])])) := by kernel_rfl
theorem F25.eq (k : Nat) (call : CallF) (a0 : Ovi.Rows) (a1 : Int) : evFnK P hs call (25 : FuncId) k Try.f25 [AV.d (D.list 1 a0), AV.d (D.int IntKind.i64 a1)] = F25.L2 k call  (k) (a0) (a1) ((0 : Int)) := by kernel_rfl
theorem F25.run (k : Nat) (a0 : Ovi.Rows) (a1 : Int) : C (k + 1) 25 [AV.d (D.list 1 a0), AV.d (D.int IntKind.i64 a1)] = F25.L2 k (C k)  (k) (a0) (a1) ((0 : Int)) := (show C (k + 1) 25 [AV.d (D.list 1 a0), AV.d (D.int IntKind.i64 a1)] = evFnK P hs (C k) 25 k Try.f25 [AV.d (D.list 1 a0), AV.d (D.int IntKind.i64 a1)] by kernel_rfl).trans (F25.eq k (C k) a0 a1)
noncomputable def F26.L5 (k : Nat) (call : CallF)  (n : Nat) (v0 : Ovi.Rows) (v1 : Int) (v2 : Int) : Option Res := loopFn P hs call 26 k Try.f26 [1, 1, 1, 0, 1, 0] [] n [(0, AV.d (D.list 3 v0)), (1, AV.d (D.int IntKind.i64 v1)), (5, AV.d (D.int IntKind.i64 v2))] []
theorem F26.L5.zero (k : Nat) (call : CallF)  (v0 : Ovi.Rows) (v1 : Int) (v2 : Int) : F26.L5 k call  0 v0 v1 v2 = none := by kernel_rfl
theorem F26.L5.succ (k : Nat) (call : CallF)  (n : Nat) (v0 : Ovi.Rows) (v1 : Int) (v2 : Int) : F26.L5 k call  (n + 1) v0 v1 v2 = ite' (decide (v2 < (↑(List.length v0) : Int))) (ite' (inR v2 (List.length v0)) (bindS (cellS v0 v2.toNat 0) fun s8 => bindI (cellI IntKind.i64 v0 v2.toNat 1) fun n9 => bindB (cellB v0 v2.toNat 2) fun b10 => bindR (call 61 [AV.agg [AV.d (D.str s8), AV.d (D.int IntKind.i64 n9), AV.d (D.bool b10)], AV.d (D.int IntKind.i64 v1)]) fun r11 => bindI (resI IntKind.i64 1 false 1 r11 0 0) fun n12 => ite' (decide (n12 < (0 : Int))) (some ([(false, [RL.d (D.int IntKind.i64 (-1 : Int))])])) (F26.L5 k call  (n) (v0) (n12) (IntKind.i64.wrap (v2 + (1 : Int))))) (none)) (some ([(false, [RL.d (D.int IntKind.i64 v1)])])) := by kernel_rfl
theorem F26.eq (k : Nat) (call : CallF) (a0 : Ovi.Rows) (a1 : Int) : evFnK P hs call (26 : FuncId) k Try.f26 [AV.d (D.list 3 a0), AV.d (D.int IntKind.i64 a1)] = ite' (decide (IntKind.i64.wrap (a1 - (↑(List.length a0) : Int)) < (0 : Int))) (some ([(false, [RL.d (D.int IntKind.i64 (-1 : Int))])])) (F26.L5 k call  (k) (a0) (IntKind.i64.wrap (a1 - (↑(List.length a0) : Int))) ((0 : Int))) := by kernel_rfl
theorem F26.run (k : Nat) (a0 : Ovi.Rows) (a1 : Int) : C (k + 1) 26 [AV.d (D.list 3 a0), AV.d (D.int IntKind.i64 a1)] = ite' (decide (IntKind.i64.wrap (a1 - (↑(List.length a0) : Int)) < (0 : Int))) (some ([(false, [RL.d (D.int IntKind.i64 (-1 : Int))])])) (F26.L5 k (C k)  (k) (a0) (IntKind.i64.wrap (a1 - (↑(List.length a0) : Int))) ((0 : Int))) := (show C (k + 1) 26 [AV.d (D.list 3 a0), AV.d (D.int IntKind.i64 a1)] = evFnK P hs (C k) 26 k Try.f26 [AV.d (D.list 3 a0), AV.d (D.int IntKind.i64 a1)] by kernel_rfl).trans (F26.eq k (C k) a0 a1)
noncomputable def F27.L5 (k : Nat) (call : CallF)  (n : Nat) (v0 : Ovi.Rows) (v1 : Int) (v2 : Int) : Option Res := loopFn P hs call 27 k Try.f27 [1, 1, 1, 0, 1, 0] [] n [(0, AV.d (D.list 2 v0)), (1, AV.d (D.int IntKind.i64 v1)), (5, AV.d (D.int IntKind.i64 v2))] []
theorem F27.L5.zero (k : Nat) (call : CallF)  (v0 : Ovi.Rows) (v1 : Int) (v2 : Int) : F27.L5 k call  0 v0 v1 v2 = none := by kernel_rfl
theorem F27.L5.succ (k : Nat) (call : CallF)  (n : Nat) (v0 : Ovi.Rows) (v1 : Int) (v2 : Int) : F27.L5 k call  (n + 1) v0 v1 v2 = ite' (decide (v2 < (↑(List.length v0) : Int))) (ite' (inR v2 (List.length v0)) (bindI (cellI IntKind.i64 v0 v2.toNat 0) fun n8 => bindL (cellL 1 v0 v2.toNat 1) fun l9 => bindR (call 62 [AV.agg [AV.d (D.int IntKind.i64 n8), AV.d (D.list 1 l9)], AV.d (D.int IntKind.i64 v1)]) fun r10 => bindI (resI IntKind.i64 1 false 1 r10 0 0) fun n11 => ite' (decide (n11 < (0 : Int))) (some ([(false, [RL.d (D.int IntKind.i64 (-1 : Int))])])) (F27.L5 k call  (n) (v0) (n11) (IntKind.i64.wrap (v2 + (1 : Int))))) (none)) (some ([(false, [RL.d (D.int IntKind.i64 v1)])])) := by kernel_rfl
theorem F27.eq (k : Nat) (call : CallF) (a0 : Ovi.Rows) (a1 : Int) : evFnK P hs call (27 : FuncId) k Try.f27 [AV.d (D.list 2 a0), AV.d (D.int IntKind.i64 a1)] = ite' (decide (IntKind.i64.wrap (a1 - (↑(List.length a0) : Int)) < (0 : Int))) (some ([(false, [RL.d (D.int IntKind.i64 (-1 : Int))])])) (F27.L5 k call  (k) (a0) (IntKind.i64.wrap (a1 - (↑(List.length a0) : Int))) ((0 : Int))) := by kernel_rfl
theorem F27.run (k : Nat) (a0 : Ovi.Rows) (a1 : Int) : C (k + 1) 27 [AV.d (D.list 2 a0), AV.d (D.int IntKind.i64 a1)] = ite' (decide (IntKind.i64.wrap (a1 - (↑(List.length a0) : Int)) < (0 : Int))) (some ([(false, [RL.d (D.int IntKind.i64 (-1 : Int))])])) (F27.L5 k (C k)  (k) (a0) (IntKind.i64.wrap (a1 - (↑(List.length a0) : Int))) ((0 : Int))) := (show C (k + 1) 27 [AV.d (D.list 2 a0), AV.d (D.int IntKind.i64 a1)] = evFnK P hs (C k) 27 k Try.f27 [AV.d (D.list 2 a0), AV.d (D.int IntKind.i64 a1)] by kernel_rfl).trans (F27.eq k (C k) a0 a1)
noncomputable def F28.L2 (k : Nat) (call : CallF)  (n : Nat) (v0 : Int) (v1 : Ovi.Rows) (v2 : Ovi.Rows) : Option Res := loopFn P hs call 28 k Try.f28 [1, 0, 1, 0] [] n [(1, AV.var 64 0), (3, AV.d (D.int IntKind.i64 v0))] [(64, Blk.var [AV.d (D.list 3 v1), AV.d (D.list 2 v2)])]
theorem F28.L2.zero (k : Nat) (call : CallF)  (v0 : Int) (v1 : Ovi.Rows) (v2 : Ovi.Rows) : F28.L2 k call  0 v0 v1 v2 = none := by kernel_rfl
theorem F28.L2.succ (k : Nat) (call : CallF)  (n : Nat) (v0 : Int) (v1 : Ovi.Rows) (v2 : Ovi.Rows) : F28.L2 k call  (n + 1) v0 v1 v2 = ite' (decide (v0 < (↑(List.length v2) : Int))) (ite' (inR v0 (List.length v2)) (bindI (cellI IntKind.i64 v2 v0.toNat 0) fun n8 => bindL (cellL 1 v2 v0.toNat 1) fun l9 => bindR (call 63 [AV.d (D.list 3 v1), AV.agg [AV.d (D.int IntKind.i64 n8), AV.d (D.list 1 l9)]]) fun r10 => bindB (resB 1 false 1 r10 0 0) fun b11 => ite' (!b11) (some ([(false, [RL.d (D.bool false)])])) (ite' (decide (v0 > (0 : Int))) (ite' (inR (IntKind.i64.wrap (v0 - (1 : Int))) (List.length v2)) (bindI (cellI IntKind.i64 v2 (IntKind.i64.wrap (v0 - (1 : Int))).toNat 0) fun n12 => bindL (cellL 1 v2 (IntKind.i64.wrap (v0 - (1 : Int))).toNat 1) fun l13 => bindR (call 64 [AV.agg [AV.d (D.int IntKind.i64 n12), AV.d (D.list 1 l13)], AV.agg [AV.d (D.int IntKind.i64 n8), AV.d (D.list 1 l9)]]) fun r14 => bindI (resI IntKind.i64 1 false 1 r14 0 0) fun n15 => ite' (decide (n15 ≥ (0 : Int))) (some ([(false, [RL.d (D.bool false)])])) (ite' (inR n8 (List.length v1)) (bindB (cellB v1 n8.toNat 2) fun b16 => ite' (b16) (bindR (call 29 [AV.agg [AV.d (D.int IntKind.i64 n8), AV.d (D.list 1 l9)]]) fun r17 => bindL (resL 1 1 false 1 r17 0 0) fun l18 => ite' (decide ((↑(List.length l18) : Int) > (0 : Int))) (some ([(false, [RL.d (D.bool false)])])) (F28.L2 k call  (n) (IntKind.i64.wrap (v0 + (1 : Int))) (v1) (v2))) (F28.L2 k call  (n) (IntKind.i64.wrap (v0 + (1 : Int))) (v1) (v2))) (none))) (none)) (ite' (inR n8 (List.length v1)) (bindB (cellB v1 n8.toNat 2) fun b12 => ite' (b12) (bindR (call 29 [AV.agg [AV.d (D.int IntKind.i64 n8), AV.d (D.list 1 l9)]]) fun r13 => bindL (resL 1 1 false 1 r13 0 0) fun l14 => ite' (decide ((↑(List.length l14) : Int) > (0 : Int))) (some ([(false, [RL.d (D.bool false)])])) (F28.L2 k call  (n) (IntKind.i64.wrap (v0 + (1 : Int))) (v1) (v2))) (F28.L2 k call  (n) (IntKind.i64.wrap (v0 + (1 : Int))) (v1) (v2))) (none)))) (none)) (bindR (call 65 [AV.d (D.list 3 v1)]) fun r8 => bindB (resB 1 false 1 r8 0 0) fun b9 => ite' (b9) (some ([(false, [RL.d (D.bool (decide ((↑(List.length v2) : Int) ≤ (30 : Int))))])])) (some ([(false, [RL.d (D.bool false)])]))) := by kernel_rfl
theorem F28.eq (k : Nat) (call : CallF) (a0_0 : Ovi.Rows) (a0_1 : Ovi.Rows) : evFnK P hs call (28 : FuncId) k Try.f28 [AV.agg [AV.d (D.list 3 a0_0), AV.d (D.list 2 a0_1)]] = F28.L2 k call  (k) ((0 : Int)) (a0_0) (a0_1) := by kernel_rfl
theorem F28.run (k : Nat) (a0_0 : Ovi.Rows) (a0_1 : Ovi.Rows) : C (k + 1) 28 [AV.agg [AV.d (D.list 3 a0_0), AV.d (D.list 2 a0_1)]] = F28.L2 k (C k)  (k) ((0 : Int)) (a0_0) (a0_1) := (show C (k + 1) 28 [AV.agg [AV.d (D.list 3 a0_0), AV.d (D.list 2 a0_1)]] = evFnK P hs (C k) 28 k Try.f28 [AV.agg [AV.d (D.list 3 a0_0), AV.d (D.list 2 a0_1)]] by kernel_rfl).trans (F28.eq k (C k) a0_0 a0_1)
noncomputable def F29.L3 (k : Nat) (call : CallF)  (n : Nat) (v0 : List (List D)) (v1 : Int) (v2 : Int) (v3 : Ovi.Rows) : Option Res := loopFn P hs call 29 k Try.f29 [1, 1, 0, 1, 0] [] n [(1, AV.var 64 0), (3, AV.d (D.list 1 v0)), (4, AV.d (D.int IntKind.i64 v1))] [(64, Blk.var [AV.d (D.int IntKind.i64 v2), AV.d (D.list 1 v3)])]
theorem F29.L3.zero (k : Nat) (call : CallF)  (v0 : List (List D)) (v1 : Int) (v2 : Int) (v3 : Ovi.Rows) : F29.L3 k call  0 v0 v1 v2 v3 = none := by kernel_rfl
theorem F29.L3.succ (k : Nat) (call : CallF)  (n : Nat) (v0 : List (List D)) (v1 : Int) (v2 : Int) (v3 : Ovi.Rows) : F29.L3 k call  (n + 1) v0 v1 v2 v3 = ite' (decide (v1 < (↑(List.length v3) : Int))) (ite' (inR v1 (List.length v3)) (bindI (cellI IntKind.i64 v3 v1.toNat 0) fun n9 => bindR (call 66 [AV.d (D.int IntKind.i64 n9)]) fun r10 => bindI (resI IntKind.i64 2 false 1 r10 0 0) fun n11 => bindB (resB 2 false 1 r10 1 0) fun b12 => ite' (b12) (bindR (call 67 [AV.d (D.list 1 v0), AV.d (D.int IntKind.i64 n11)]) fun r13 => bindL (resL 1 1 false 1 r13 0 0) fun l14 => F29.L3 k call  (n) (l14) (IntKind.i64.wrap (v1 + (1 : Int))) (v2) (v3)) (F29.L3 k call  (n) (v0) (IntKind.i64.wrap (v1 + (1 : Int))) (v2) (v3))) (none)) (some ([(false, [RL.d (D.list 1 v0)])])) := by kernel_rfl
theorem F29.eq (k : Nat) (call : CallF) (a0_0 : Int) (a0_1 : Ovi.Rows) : evFnK P hs call (29 : FuncId) k Try.f29 [AV.agg [AV.d (D.int IntKind.i64 a0_0), AV.d (D.list 1 a0_1)]] = F29.L3 k call  (k) ([]) ((0 : Int)) (a0_0) (a0_1) := by kernel_rfl
theorem F29.run (k : Nat) (a0_0 : Int) (a0_1 : Ovi.Rows) : C (k + 1) 29 [AV.agg [AV.d (D.int IntKind.i64 a0_0), AV.d (D.list 1 a0_1)]] = F29.L3 k (C k)  (k) ([]) ((0 : Int)) (a0_0) (a0_1) := (show C (k + 1) 29 [AV.agg [AV.d (D.int IntKind.i64 a0_0), AV.d (D.list 1 a0_1)]] = evFnK P hs (C k) 29 k Try.f29 [AV.agg [AV.d (D.int IntKind.i64 a0_0), AV.d (D.list 1 a0_1)]] by kernel_rfl).trans (F29.eq k (C k) a0_0 a0_1)
theorem F31.eq (k : Nat) (call : CallF) (a0_0 : Int) (a0_1 : Ovi.Rows) : evFnK P hs call (31 : FuncId) k Try.f31 [AV.agg [AV.d (D.int IntKind.i64 a0_0), AV.d (D.list 1 a0_1)]] = ite' (fits (List.length a0_1)) (some ([(true, [RL.d (D.int IntKind.i64 a0_0), RL.row 3 1 a0_1])])) (none) := by kernel_rfl
theorem F31.run (k : Nat) (a0_0 : Int) (a0_1 : Ovi.Rows) : C (k + 1) 31 [AV.agg [AV.d (D.int IntKind.i64 a0_0), AV.d (D.list 1 a0_1)]] = ite' (fits (List.length a0_1)) (some ([(true, [RL.d (D.int IntKind.i64 a0_0), RL.row 3 1 a0_1])])) (none) := (show C (k + 1) 31 [AV.agg [AV.d (D.int IntKind.i64 a0_0), AV.d (D.list 1 a0_1)]] = evFnK P hs (C k) 31 k Try.f31 [AV.agg [AV.d (D.int IntKind.i64 a0_0), AV.d (D.list 1 a0_1)]] by kernel_rfl).trans (F31.eq k (C k) a0_0 a0_1)
noncomputable def F32.L3 (k : Nat) (call : CallF)  (n : Nat) (v0 : Ovi.Rows) (v1 : Int) (v2 : Ovi.Rows) : Option Res := loopFn P hs call 32 k Try.f32 [1, 1, 0, 1, 0] [] n [(0, AV.d (D.list 3 v0)), (3, AV.own 100003 0), (4, AV.d (D.int IntKind.i64 v1))] [(100003, Blk.arr 86 3 0 v2 (0, 0, 0))]
theorem F32.L3.zero (k : Nat) (call : CallF)  (v0 : Ovi.Rows) (v1 : Int) (v2 : Ovi.Rows) : F32.L3 k call  0 v0 v1 v2 = none := by kernel_rfl
theorem F32.L3.succ (k : Nat) (call : CallF)  (n : Nat) (v0 : Ovi.Rows) (v1 : Int) (v2 : Ovi.Rows) : F32.L3 k call  (n + 1) v0 v1 v2 = ite' (decide (v1 < (↑(List.length v0) : Int))) (ite' (inR v1 (List.length v0)) (bindS (cellS v0 v1.toNat 0) fun s7 => bindI (cellI IntKind.i64 v0 v1.toNat 1) fun n8 => bindB (cellB v0 v1.toNat 2) fun b9 => bindR (call 68 [AV.agg [AV.d (D.str s7), AV.d (D.int IntKind.i64 n8), AV.d (D.bool b9)]]) fun r10 => bindS (resS 1 true 3 r10 0 0) fun s11 => bindI (resI IntKind.i64 1 true 3 r10 0 1) fun n12 => bindB (resB 1 true 3 r10 0 2) fun b13 => ite' (inR v1 (List.length v2)) (F32.L3 k call  (n) (v0) (IntKind.i64.wrap (v1 + (1 : Int))) (rowsSet v2 v1.toNat 0 [D.str s11, D.int IntKind.i64 n12, D.bool b13])) (none)) (none)) (some ([(false, [RL.row 86 3 v2])])) := by kernel_rfl
theorem F32.eq (k : Nat) (call : CallF) (a0 : Ovi.Rows) : evFnK P hs call (32 : FuncId) k Try.f32 [AV.d (D.list 3 a0)] = ite' ((↑(List.length a0) : Int) == (↑(List.length a0) : Int)) (ite' (inM (↑(List.length a0) : Int)) (F32.L3 k call  (k) (a0) ((0 : Int)) (rowsOf (↑(List.length a0) : Int) [D.str ([] : List UInt8), D.int IntKind.i64 (0 : Int), D.bool false])) (none)) (none) := by kernel_rfl
theorem F32.run (k : Nat) (a0 : Ovi.Rows) : C (k + 1) 32 [AV.d (D.list 3 a0)] = ite' ((↑(List.length a0) : Int) == (↑(List.length a0) : Int)) (ite' (inM (↑(List.length a0) : Int)) (F32.L3 k (C k)  (k) (a0) ((0 : Int)) (rowsOf (↑(List.length a0) : Int) [D.str ([] : List UInt8), D.int IntKind.i64 (0 : Int), D.bool false])) (none)) (none) := (show C (k + 1) 32 [AV.d (D.list 3 a0)] = evFnK P hs (C k) 32 k Try.f32 [AV.d (D.list 3 a0)] by kernel_rfl).trans (F32.eq k (C k) a0)
noncomputable def F33.L3 (k : Nat) (call : CallF)  (n : Nat) (v0 : Ovi.Rows) (v1 : Int) (v2 : Ovi.Rows) : Option Res := loopFn P hs call 33 k Try.f33 [1, 1, 0, 1, 0] [] n [(0, AV.d (D.list 2 v0)), (3, AV.own 100003 0), (4, AV.d (D.int IntKind.i64 v1))] [(100003, Blk.arr 58 2 0 v2 (1, 0, 0))]
theorem F33.L3.zero (k : Nat) (call : CallF)  (v0 : Ovi.Rows) (v1 : Int) (v2 : Ovi.Rows) : F33.L3 k call  0 v0 v1 v2 = none := by kernel_rfl
theorem F33.L3.succ (k : Nat) (call : CallF)  (n : Nat) (v0 : Ovi.Rows) (v1 : Int) (v2 : Ovi.Rows) : F33.L3 k call  (n + 1) v0 v1 v2 = ite' (decide (v1 < (↑(List.length v0) : Int))) (ite' (inR v1 (List.length v0)) (bindI (cellI IntKind.i64 v0 v1.toNat 0) fun n7 => bindL (cellL 1 v0 v1.toNat 1) fun l8 => bindR (call 69 [AV.agg [AV.d (D.int IntKind.i64 n7), AV.d (D.list 1 l8)]]) fun r9 => bindI (resI IntKind.i64 1 true 2 r9 0 0) fun n10 => bindL (resO 3 1 1 true 2 r9 0 1) fun l11 => ite' (inR v1 (List.length v2)) (F33.L3 k call  (n) (v0) (IntKind.i64.wrap (v1 + (1 : Int))) (rowsSet v2 v1.toNat 0 [D.int IntKind.i64 n10, D.list 1 l11])) (none)) (none)) (some ([(false, [RL.frow 58 2 1 v2])])) := by kernel_rfl
theorem F33.eq (k : Nat) (call : CallF) (a0 : Ovi.Rows) : evFnK P hs call (33 : FuncId) k Try.f33 [AV.d (D.list 2 a0)] = ite' ((↑(List.length a0) : Int) == (↑(List.length a0) : Int)) (ite' (inM (↑(List.length a0) : Int)) (F33.L3 k call  (k) (a0) ((0 : Int)) (rowsOf (↑(List.length a0) : Int) [D.int IntKind.i64 (0 : Int), D.list 1 []])) (none)) (none) := by kernel_rfl
theorem F33.run (k : Nat) (a0 : Ovi.Rows) : C (k + 1) 33 [AV.d (D.list 2 a0)] = ite' ((↑(List.length a0) : Int) == (↑(List.length a0) : Int)) (ite' (inM (↑(List.length a0) : Int)) (F33.L3 k (C k)  (k) (a0) ((0 : Int)) (rowsOf (↑(List.length a0) : Int) [D.int IntKind.i64 (0 : Int), D.list 1 []])) (none)) (none) := (show C (k + 1) 33 [AV.d (D.list 2 a0)] = evFnK P hs (C k) 33 k Try.f33 [AV.d (D.list 2 a0)] by kernel_rfl).trans (F33.eq k (C k) a0)
noncomputable def F34.L4 (k : Nat) (call : CallF)  (n : Nat) (v0 : Ovi.Rows) (v1 : Int) (v2 : Int) (v3 : Ovi.Rows) (v4 : Ovi.Rows) : Option Res := loopFn P hs call 34 k Try.f34 [1, 1, 0, 1, 0] [] n [(1, AV.var 64 0), (16, AV.d (D.list 2 v0)), (17, AV.d (D.int IntKind.i64 v1)), (18, AV.d (D.int IntKind.i64 v2))] [(64, Blk.var [AV.d (D.list 3 v3), AV.d (D.list 2 v4)])]
theorem F34.L4.zero (k : Nat) (call : CallF)  (v0 : Ovi.Rows) (v1 : Int) (v2 : Int) (v3 : Ovi.Rows) (v4 : Ovi.Rows) : F34.L4 k call  0 v0 v1 v2 v3 v4 = none := by kernel_rfl
theorem F34.L4.succ (k : Nat) (call : CallF)  (n : Nat) (v0 : Ovi.Rows) (v1 : Int) (v2 : Int) (v3 : Ovi.Rows) (v4 : Ovi.Rows) : F34.L4 k call  (n + 1) v0 v1 v2 v3 v4 = ite' (decide (v2 < v1)) (ite' (inR v2 (List.length v0)) (bindI (cellI IntKind.i64 v0 v2.toNat 0) fun n10 => bindL (cellL 1 v0 v2.toNat 1) fun l11 => bindR (call 71 [AV.d (D.list 3 v3), AV.agg [AV.d (D.int IntKind.i64 n10), AV.d (D.list 1 l11)]]) fun r12 => bindB (resB 1 false 1 r12 0 0) fun b13 => ite' (!b13) (some ([(false, [RL.d (D.bool false)])])) (ite' (decide (v2 > (0 : Int))) (ite' (inR (IntKind.i64.wrap (v2 - (1 : Int))) (List.length v4)) (bindI (cellI IntKind.i64 v4 (IntKind.i64.wrap (v2 - (1 : Int))).toNat 0) fun n14 => bindL (cellL 1 v4 (IntKind.i64.wrap (v2 - (1 : Int))).toNat 1) fun l15 => bindR (call 72 [AV.agg [AV.d (D.int IntKind.i64 n14), AV.d (D.list 1 l15)], AV.agg [AV.d (D.int IntKind.i64 n10), AV.d (D.list 1 l11)]]) fun r16 => bindI (resI IntKind.i64 1 false 1 r16 0 0) fun n17 => ite' (decide (n17 ≥ (0 : Int))) (some ([(false, [RL.d (D.bool false)])])) (ite' (inR n10 (List.length v3)) (bindB (cellB v3 n10.toNat 2) fun b18 => ite' (b18) (bindR (call 52 [AV.agg [AV.d (D.int IntKind.i64 n10), AV.d (D.list 1 l11)]]) fun r19 => bindL (resO 3 1 1 false 1 r19 0 0) fun l20 => ite' (decide ((↑(List.length l20) : Int) > (0 : Int))) (some ([(false, [RL.d (D.bool false)])])) (F34.L4 k call  (n) (v0) (v1) (IntKind.i64.wrap (v2 + (1 : Int))) (v3) (v4))) (F34.L4 k call  (n) (v0) (v1) (IntKind.i64.wrap (v2 + (1 : Int))) (v3) (v4))) (none))) (none)) (ite' (inR n10 (List.length v3)) (bindB (cellB v3 n10.toNat 2) fun b14 => ite' (b14) (bindR (call 52 [AV.agg [AV.d (D.int IntKind.i64 n10), AV.d (D.list 1 l11)]]) fun r15 => bindL (resO 3 1 1 false 1 r15 0 0) fun l16 => ite' (decide ((↑(List.length l16) : Int) > (0 : Int))) (some ([(false, [RL.d (D.bool false)])])) (F34.L4 k call  (n) (v0) (v1) (IntKind.i64.wrap (v2 + (1 : Int))) (v3) (v4))) (F34.L4 k call  (n) (v0) (v1) (IntKind.i64.wrap (v2 + (1 : Int))) (v3) (v4))) (none)))) (none)) (some ([(false, [RL.d (D.bool true)])])) := by kernel_rfl
theorem F34.eq (k : Nat) (call : CallF) (a0_0 : Ovi.Rows) (a0_1 : Ovi.Rows) : evFnK P hs call (34 : FuncId) k Try.f34 [AV.agg [AV.d (D.list 3 a0_0), AV.d (D.list 2 a0_1)]] = bindR (call 70 [AV.d (D.list 3 a0_0)]) fun r4 => bindB (resB 1 false 1 r4 0 0) fun b5 => ite' (!b5) (some ([(false, [RL.d (D.bool false)])])) (ite' (decide ((↑(List.length a0_1) : Int) > (30 : Int))) (some ([(false, [RL.d (D.bool false)])])) (F34.L4 k call  (k) (a0_1) ((↑(List.length a0_1) : Int)) ((0 : Int)) (a0_0) (a0_1))) := by kernel_rfl
theorem F34.run (k : Nat) (a0_0 : Ovi.Rows) (a0_1 : Ovi.Rows) : C (k + 1) 34 [AV.agg [AV.d (D.list 3 a0_0), AV.d (D.list 2 a0_1)]] = bindR ((C k) 70 [AV.d (D.list 3 a0_0)]) fun r4 => bindB (resB 1 false 1 r4 0 0) fun b5 => ite' (!b5) (some ([(false, [RL.d (D.bool false)])])) (ite' (decide ((↑(List.length a0_1) : Int) > (30 : Int))) (some ([(false, [RL.d (D.bool false)])])) (F34.L4 k (C k)  (k) (a0_1) ((↑(List.length a0_1) : Int)) ((0 : Int)) (a0_0) (a0_1))) := (show C (k + 1) 34 [AV.agg [AV.d (D.list 3 a0_0), AV.d (D.list 2 a0_1)]] = evFnK P hs (C k) 34 k Try.f34 [AV.agg [AV.d (D.list 3 a0_0), AV.d (D.list 2 a0_1)]] by kernel_rfl).trans (F34.eq k (C k) a0_0 a0_1)
theorem F35.eq (k : Nat) (call : CallF) (a0_0 : Ovi.Rows) (a0_1 : Ovi.Rows) : evFnK P hs call (35 : FuncId) k Try.f35 [AV.agg [AV.d (D.list 3 a0_0), AV.d (D.list 2 a0_1)]] = bindR (call 73 [AV.d (D.list 3 a0_0)]) fun r4 => bindL (resO 86 3 1 false 1 r4 0 0) fun l5 => bindR (call 74 [AV.d (D.list 2 a0_1)]) fun r6 => bindL (resF 58 2 1 1 false 1 r6 0 0) fun l7 => some ([(true, [RL.row 86 3 l5, RL.frow 58 2 1 l7])]) := by kernel_rfl
theorem F35.run (k : Nat) (a0_0 : Ovi.Rows) (a0_1 : Ovi.Rows) : C (k + 1) 35 [AV.agg [AV.d (D.list 3 a0_0), AV.d (D.list 2 a0_1)]] = bindR ((C k) 73 [AV.d (D.list 3 a0_0)]) fun r4 => bindL (resO 86 3 1 false 1 r4 0 0) fun l5 => bindR ((C k) 74 [AV.d (D.list 2 a0_1)]) fun r6 => bindL (resF 58 2 1 1 false 1 r6 0 0) fun l7 => some ([(true, [RL.row 86 3 l5, RL.frow 58 2 1 l7])]) := (show C (k + 1) 35 [AV.agg [AV.d (D.list 3 a0_0), AV.d (D.list 2 a0_1)]] = evFnK P hs (C k) 35 k Try.f35 [AV.agg [AV.d (D.list 3 a0_0), AV.d (D.list 2 a0_1)]] by kernel_rfl).trans (F35.eq k (C k) a0_0 a0_1)
noncomputable def F39.L4 (k : Nat) (call : CallF)  (n : Nat) (v0 : Ovi.Rows) (v1 : Ovi.Rows) (v2 : Int) : Option Res := loopFn P hs call 39 k Try.f39 [1, 1, 0, 1, 0] [] n [(0, AV.d (D.list 3 v0)), (1, AV.d (D.list 3 v1)), (5, AV.d (D.int IntKind.i64 v2))] []
theorem F39.L4.zero (k : Nat) (call : CallF)  (v0 : Ovi.Rows) (v1 : Ovi.Rows) (v2 : Int) : F39.L4 k call  0 v0 v1 v2 = none := by kernel_rfl
theorem F39.L4.succ (k : Nat) (call : CallF)  (n : Nat) (v0 : Ovi.Rows) (v1 : Ovi.Rows) (v2 : Int) : F39.L4 k call  (n + 1) v0 v1 v2 = ite' (decide (v2 < (↑(List.length v0) : Int))) (ite' (inR v2 (List.length v0)) (bindS (cellS v0 v2.toNat 0) fun s8 => bindI (cellI IntKind.i64 v0 v2.toNat 1) fun n9 => bindB (cellB v0 v2.toNat 2) fun b10 => ite' (inR v2 (List.length v1)) (bindS (cellS v1 v2.toNat 0) fun s11 => bindI (cellI IntKind.i64 v1 v2.toNat 1) fun n12 => bindB (cellB v1 v2.toNat 2) fun b13 => bindR (call 77 [AV.agg [AV.d (D.str s8), AV.d (D.int IntKind.i64 n9), AV.d (D.bool b10)], AV.agg [AV.d (D.str s11), AV.d (D.int IntKind.i64 n12), AV.d (D.bool b13)]]) fun r14 => bindB (resB 1 false 1 r14 0 0) fun b15 => ite' (!b15) (some ([(false, [RL.d (D.bool false)])])) (F39.L4 k call  (n) (v0) (v1) (IntKind.i64.wrap (v2 + (1 : Int))))) (none)) (none)) (some ([(false, [RL.d (D.bool true)])])) := by kernel_rfl
theorem F39.eq (k : Nat) (call : CallF) (a0 : Ovi.Rows) (a1 : Ovi.Rows) : evFnK P hs call (39 : FuncId) k Try.f39 [AV.d (D.list 3 a0), AV.d (D.list 3 a1)] = ite' ((↑(List.length a0) : Int) != (↑(List.length a1) : Int)) (some ([(false, [RL.d (D.bool false)])])) (F39.L4 k call  (k) (a0) (a1) ((0 : Int))) := by kernel_rfl
theorem F39.run (k : Nat) (a0 : Ovi.Rows) (a1 : Ovi.Rows) : C (k + 1) 39 [AV.d (D.list 3 a0), AV.d (D.list 3 a1)] = ite' ((↑(List.length a0) : Int) != (↑(List.length a1) : Int)) (some ([(false, [RL.d (D.bool false)])])) (F39.L4 k (C k)  (k) (a0) (a1) ((0 : Int))) := (show C (k + 1) 39 [AV.d (D.list 3 a0), AV.d (D.list 3 a1)] = evFnK P hs (C k) 39 k Try.f39 [AV.d (D.list 3 a0), AV.d (D.list 3 a1)] by kernel_rfl).trans (F39.eq k (C k) a0 a1)
noncomputable def F40.L4 (k : Nat) (call : CallF)  (n : Nat) (v0 : Ovi.Rows) (v1 : Ovi.Rows) (v2 : Int) : Option Res := loopFn P hs call 40 k Try.f40 [1, 1, 0, 1, 0] [] n [(0, AV.d (D.list 2 v0)), (1, AV.d (D.list 2 v1)), (5, AV.d (D.int IntKind.i64 v2))] []
theorem F40.L4.zero (k : Nat) (call : CallF)  (v0 : Ovi.Rows) (v1 : Ovi.Rows) (v2 : Int) : F40.L4 k call  0 v0 v1 v2 = none := by kernel_rfl
theorem F40.L4.succ (k : Nat) (call : CallF)  (n : Nat) (v0 : Ovi.Rows) (v1 : Ovi.Rows) (v2 : Int) : F40.L4 k call  (n + 1) v0 v1 v2 = ite' (decide (v2 < (↑(List.length v0) : Int))) (ite' (inR v2 (List.length v0)) (bindI (cellI IntKind.i64 v0 v2.toNat 0) fun n8 => bindL (cellL 1 v0 v2.toNat 1) fun l9 => ite' (inR v2 (List.length v1)) (bindI (cellI IntKind.i64 v1 v2.toNat 0) fun n10 => bindL (cellL 1 v1 v2.toNat 1) fun l11 => bindR (call 78 [AV.agg [AV.d (D.int IntKind.i64 n8), AV.d (D.list 1 l9)], AV.agg [AV.d (D.int IntKind.i64 n10), AV.d (D.list 1 l11)]]) fun r12 => bindB (resB 1 false 1 r12 0 0) fun b13 => ite' (!b13) (some ([(false, [RL.d (D.bool false)])])) (F40.L4 k call  (n) (v0) (v1) (IntKind.i64.wrap (v2 + (1 : Int))))) (none)) (none)) (some ([(false, [RL.d (D.bool true)])])) := by kernel_rfl
theorem F40.eq (k : Nat) (call : CallF) (a0 : Ovi.Rows) (a1 : Ovi.Rows) : evFnK P hs call (40 : FuncId) k Try.f40 [AV.d (D.list 2 a0), AV.d (D.list 2 a1)] = ite' ((↑(List.length a0) : Int) != (↑(List.length a1) : Int)) (some ([(false, [RL.d (D.bool false)])])) (F40.L4 k call  (k) (a0) (a1) ((0 : Int))) := by kernel_rfl
theorem F40.run (k : Nat) (a0 : Ovi.Rows) (a1 : Ovi.Rows) : C (k + 1) 40 [AV.d (D.list 2 a0), AV.d (D.list 2 a1)] = ite' ((↑(List.length a0) : Int) != (↑(List.length a1) : Int)) (some ([(false, [RL.d (D.bool false)])])) (F40.L4 k (C k)  (k) (a0) (a1) ((0 : Int))) := (show C (k + 1) 40 [AV.d (D.list 2 a0), AV.d (D.list 2 a1)] = evFnK P hs (C k) 40 k Try.f40 [AV.d (D.list 2 a0), AV.d (D.list 2 a1)] by kernel_rfl).trans (F40.eq k (C k) a0 a1)
noncomputable def F43.L2 (k : Nat) (call : CallF)  (n : Nat) (v0 : Ovi.Rows) (v1 : Int) (v2 : Int) : Option Res := loopFn P hs call 43 k Try.f43 [1, 0, 1, 0] [] n [(0, AV.d (D.list 3 v0)), (1, AV.d (D.int IntKind.i64 v1)), (5, AV.d (D.int IntKind.i64 v2))] []
theorem F43.L2.zero (k : Nat) (call : CallF)  (v0 : Ovi.Rows) (v1 : Int) (v2 : Int) : F43.L2 k call  0 v0 v1 v2 = none := by kernel_rfl
theorem F43.L2.succ (k : Nat) (call : CallF)  (n : Nat) (v0 : Ovi.Rows) (v1 : Int) (v2 : Int) : F43.L2 k call  (n + 1) v0 v1 v2 = ite' (decide (v2 < (↑(List.length v0) : Int))) (ite' (inR v2 (List.length v0)) (bindS (cellS v0 v2.toNat 0) fun s8 => bindR (call 79 [AV.d (D.int IntKind.i64 v1)]) fun r9 => bindS (resS 1 false 1 r9 0 0) fun s10 => ite' (!s8 == s10) (some ([(false, [RL.d (D.int IntKind.i64 (-1 : Int))])])) (ite' (inR v2 (List.length v0)) (bindI (cellI IntKind.i64 v0 v2.toNat 1) fun n11 => ite' (n11 != IntKind.i64.wrap (v1 + (1 : Int))) (some ([(false, [RL.d (D.int IntKind.i64 (-1 : Int))])])) (ite' (inR v2 (List.length v0)) (bindB (cellB v0 v2.toNat 2) fun b12 => ite' (!b12 == ((IntKind.i64.wrap (IntKind.i64.wrap (v1 + (1 : Int)) + (1 : Int))).tmod (3 : Int) == (0 : Int))) (some ([(false, [RL.d (D.int IntKind.i64 (-1 : Int))])])) (F43.L2 k call  (n) (v0) (IntKind.i64.wrap (IntKind.i64.wrap (IntKind.i64.wrap (v1 + (1 : Int)) + (1 : Int)) + (1 : Int))) (IntKind.i64.wrap (v2 + (1 : Int))))) (none))) (none))) (none)) (some ([(false, [RL.d (D.int IntKind.i64 v1)])])) := by kernel_rfl
theorem F43.eq (k : Nat) (call : CallF) (a0 : Ovi.Rows) (a1 : Int) : evFnK P hs call (43 : FuncId) k Try.f43 [AV.d (D.list 3 a0), AV.d (D.int IntKind.i64 a1)] = F43.L2 k call  (k) (a0) (a1) ((0 : Int)) := by kernel_rfl
theorem F43.run (k : Nat) (a0 : Ovi.Rows) (a1 : Int) : C (k + 1) 43 [AV.d (D.list 3 a0), AV.d (D.int IntKind.i64 a1)] = F43.L2 k (C k)  (k) (a0) (a1) ((0 : Int)) := (show C (k + 1) 43 [AV.d (D.list 3 a0), AV.d (D.int IntKind.i64 a1)] = evFnK P hs (C k) 43 k Try.f43 [AV.d (D.list 3 a0), AV.d (D.int IntKind.i64 a1)] by kernel_rfl).trans (F43.eq k (C k) a0 a1)
noncomputable def F44.L2 (k : Nat) (call : CallF)  (n : Nat) (v0 : Ovi.Rows) (v1 : Int) (v2 : Int) : Option Res := loopFn P hs call 44 k Try.f44 [1, 0, 1, 0] [] n [(0, AV.d (D.list 2 v0)), (1, AV.d (D.int IntKind.i64 v1)), (5, AV.d (D.int IntKind.i64 v2))] []
theorem F44.L2.zero (k : Nat) (call : CallF)  (v0 : Ovi.Rows) (v1 : Int) (v2 : Int) : F44.L2 k call  0 v0 v1 v2 = none := by kernel_rfl
theorem F44.L2.succ (k : Nat) (call : CallF)  (n : Nat) (v0 : Ovi.Rows) (v1 : Int) (v2 : Int) : F44.L2 k call  (n + 1) v0 v1 v2 = ite' (decide (v2 < (↑(List.length v0) : Int))) (ite' (inR v2 (List.length v0)) (bindI (cellI IntKind.i64 v0 v2.toNat 0) fun n8 => ite' (n8 != v1) (some ([(false, [RL.d (D.int IntKind.i64 (-1 : Int))])])) (ite' (inR v2 (List.length v0)) (bindL (cellL 1 v0 v2.toNat 1) fun l9 => bindR (call 60 [AV.d (D.list 1 l9), AV.d (D.int IntKind.i64 (IntKind.i64.wrap (v1 + (1 : Int))))]) fun r10 => bindI (resI IntKind.i64 1 false 1 r10 0 0) fun n11 => ite' (decide (n11 < (0 : Int))) (some ([(false, [RL.d (D.int IntKind.i64 (-1 : Int))])])) (F44.L2 k call  (n) (v0) (n11) (IntKind.i64.wrap (v2 + (1 : Int))))) (none))) (none)) (some ([(false, [RL.d (D.int IntKind.i64 v1)])])) := by kernel_rfl
theorem F44.eq (k : Nat) (call : CallF) (a0 : Ovi.Rows) (a1 : Int) : evFnK P hs call (44 : FuncId) k Try.f44 [AV.d (D.list 2 a0), AV.d (D.int IntKind.i64 a1)] = F44.L2 k call  (k) (a0) (a1) ((0 : Int)) := by kernel_rfl
theorem F44.run (k : Nat) (a0 : Ovi.Rows) (a1 : Int) : C (k + 1) 44 [AV.d (D.list 2 a0), AV.d (D.int IntKind.i64 a1)] = F44.L2 k (C k)  (k) (a0) (a1) ((0 : Int)) := (show C (k + 1) 44 [AV.d (D.list 2 a0), AV.d (D.int IntKind.i64 a1)] = evFnK P hs (C k) 44 k Try.f44 [AV.d (D.list 2 a0), AV.d (D.int IntKind.i64 a1)] by kernel_rfl).trans (F44.eq k (C k) a0 a1)
theorem F45.eq (k : Nat) (call : CallF) (a0_0 : Ovi.Rows) (a0_1 : Ovi.Rows) : evFnK P hs call (45 : FuncId) k Try.f45 [AV.agg [AV.d (D.list 3 a0_0), AV.d (D.list 2 a0_1)]] = bindR (call 28 [AV.agg [AV.d (D.list 3 a0_0), AV.d (D.list 2 a0_1)]]) fun r4 => bindB (resB 1 false 1 r4 0 0) fun b5 => ite' (b5) (bindR (call 51 [AV.agg [AV.d (D.list 3 a0_0), AV.d (D.list 2 a0_1)]]) fun r6 => bindL (resL 1 1 false 1 r6 0 0) fun l7 => some ([(false, [RL.d (D.bool ((↑(List.length l7) : Int) == (0 : Int)))])])) (some ([(false, [RL.d (D.bool false)])])) := by kernel_rfl
theorem F45.run (k : Nat) (a0_0 : Ovi.Rows) (a0_1 : Ovi.Rows) : C (k + 1) 45 [AV.agg [AV.d (D.list 3 a0_0), AV.d (D.list 2 a0_1)]] = bindR ((C k) 28 [AV.agg [AV.d (D.list 3 a0_0), AV.d (D.list 2 a0_1)]]) fun r4 => bindB (resB 1 false 1 r4 0 0) fun b5 => ite' (b5) (bindR ((C k) 51 [AV.agg [AV.d (D.list 3 a0_0), AV.d (D.list 2 a0_1)]]) fun r6 => bindL (resL 1 1 false 1 r6 0 0) fun l7 => some ([(false, [RL.d (D.bool ((↑(List.length l7) : Int) == (0 : Int)))])])) (some ([(false, [RL.d (D.bool false)])])) := (show C (k + 1) 45 [AV.agg [AV.d (D.list 3 a0_0), AV.d (D.list 2 a0_1)]] = evFnK P hs (C k) 45 k Try.f45 [AV.agg [AV.d (D.list 3 a0_0), AV.d (D.list 2 a0_1)]] by kernel_rfl).trans (F45.eq k (C k) a0_0 a0_1)
noncomputable def F46.L3 (k : Nat) (call : CallF)  (n : Nat) (v0 : Int) (v1 : Ovi.Rows) (v2 : Ovi.Rows) (v3 : List (List D)) (v4 : List (List D)) (v5 : Ovi.Rows) (v6 : List (List D)) : Option Res := loopFn P hs call 46 k Try.f46 [1, 1, 0, 1, 0] [] n [(1, AV.var 64 0), (2, AV.var 128 0), (3, AV.var 192 0), (4, AV.d (D.int IntKind.i64 v0))] [(64, Blk.var [AV.d (D.list 3 v1), AV.d (D.list 2 v2)]), (128, Blk.var [AV.own 200032 0, AV.own 200033 0]), (200032, Blk.arr 86 3 0 v3 (0, 0, 0)), (200033, Blk.arr 58 2 0 v4 (1, 0, 0)), (192, Blk.var [AV.own 200048 0, AV.own 200049 0]), (200048, Blk.arr 86 3 0 v5 (0, 0, 0)), (200049, Blk.arr 58 2 0 v6 (1, 0, 0))]
theorem F46.L3.zero (k : Nat) (call : CallF)  (v0 : Int) (v1 : Ovi.Rows) (v2 : Ovi.Rows) (v3 : List (List D)) (v4 : List (List D)) (v5 : Ovi.Rows) (v6 : List (List D)) : F46.L3 k call  0 v0 v1 v2 v3 v4 v5 v6 = none := by kernel_rfl
theorem F46.L3.succ (k : Nat) (call : CallF)  (n : Nat) (v0 : Int) (v1 : Ovi.Rows) (v2 : Ovi.Rows) (v3 : List (List D)) (v4 : List (List D)) (v5 : Ovi.Rows) (v6 : List (List D)) : F46.L3 k call  (n + 1) v0 v1 v2 v3 v4 v5 v6 = ite' (decide (v0 < (↑(List.length v2) : Int))) (ite' (inR v0 (List.length v2)) (bindI (cellI IntKind.i64 v2 v0.toNat 0) fun n12 => bindL (cellL 1 v2 v0.toNat 1) fun l13 => bindR (call 31 [AV.agg [AV.d (D.int IntKind.i64 n12), AV.d (D.list 1 l13)]]) fun r14 => bindI (resI IntKind.i64 1 true 2 r14 0 0) fun n15 => bindL (resO 3 1 1 true 2 r14 0 1) fun l16 => ite' (fits (v6.length + [[D.int IntKind.i64 n15, D.list 1 l16]].length)) (F46.L3 k call  (n) (IntKind.i64.wrap (v0 + (1 : Int))) (v1) (v2) (v3) (v4) (v5) (v6 ++ [[D.int IntKind.i64 n15, D.list 1 l16]])) (none)) (none)) (some ([(true, [RL.row 86 3 v5, RL.frow 58 2 1 v6])])) := by kernel_rfl
theorem F46.eq (k : Nat) (call : CallF) (a0_0 : Ovi.Rows) (a0_1 : Ovi.Rows) : evFnK P hs call (46 : FuncId) k Try.f46 [AV.agg [AV.d (D.list 3 a0_0), AV.d (D.list 2 a0_1)]] = ite' (fits (List.length a0_0)) (F46.L3 k call  (k) ((0 : Int)) (a0_0) (a0_1) ([]) ([]) (a0_0) ([])) (none) := by kernel_rfl
theorem F46.run (k : Nat) (a0_0 : Ovi.Rows) (a0_1 : Ovi.Rows) : C (k + 1) 46 [AV.agg [AV.d (D.list 3 a0_0), AV.d (D.list 2 a0_1)]] = ite' (fits (List.length a0_0)) (F46.L3 k (C k)  (k) ((0 : Int)) (a0_0) (a0_1) ([]) ([]) (a0_0) ([])) (none) := (show C (k + 1) 46 [AV.agg [AV.d (D.list 3 a0_0), AV.d (D.list 2 a0_1)]] = evFnK P hs (C k) 46 k Try.f46 [AV.agg [AV.d (D.list 3 a0_0), AV.d (D.list 2 a0_1)]] by kernel_rfl).trans (F46.eq k (C k) a0_0 a0_1)
theorem F47.eq (k : Nat) (call : CallF) (a0_0 : Ovi.Rows) (a0_1 : Ovi.Rows) : evFnK P hs call (47 : FuncId) k Try.f47 [AV.agg [AV.d (D.list 3 a0_0), AV.d (D.list 2 a0_1)]] = bindR (call 34 [AV.agg [AV.d (D.list 3 a0_0), AV.d (D.list 2 a0_1)]]) fun r4 => bindB (resB 1 false 1 r4 0 0) fun b5 => ite' (b5) (bindR (call 80 [AV.agg [AV.d (D.list 3 a0_0), AV.d (D.list 2 a0_1)]]) fun r6 => bindL (resO 3 1 1 false 1 r6 0 0) fun l7 => some ([(false, [RL.d (D.bool ((↑(List.length l7) : Int) == (0 : Int)))])])) (some ([(false, [RL.d (D.bool false)])])) := by kernel_rfl
theorem F47.run (k : Nat) (a0_0 : Ovi.Rows) (a0_1 : Ovi.Rows) : C (k + 1) 47 [AV.agg [AV.d (D.list 3 a0_0), AV.d (D.list 2 a0_1)]] = bindR ((C k) 34 [AV.agg [AV.d (D.list 3 a0_0), AV.d (D.list 2 a0_1)]]) fun r4 => bindB (resB 1 false 1 r4 0 0) fun b5 => ite' (b5) (bindR ((C k) 80 [AV.agg [AV.d (D.list 3 a0_0), AV.d (D.list 2 a0_1)]]) fun r6 => bindL (resO 3 1 1 false 1 r6 0 0) fun l7 => some ([(false, [RL.d (D.bool ((↑(List.length l7) : Int) == (0 : Int)))])])) (some ([(false, [RL.d (D.bool false)])])) := (show C (k + 1) 47 [AV.agg [AV.d (D.list 3 a0_0), AV.d (D.list 2 a0_1)]] = evFnK P hs (C k) 47 k Try.f47 [AV.agg [AV.d (D.list 3 a0_0), AV.d (D.list 2 a0_1)]] by kernel_rfl).trans (F47.eq k (C k) a0_0 a0_1)
noncomputable def F48.L4 (k : Nat) (call : CallF)  (n : Nat) (v0 : Ovi.Rows) (v1 : Ovi.Rows) (v2 : Int) : Option Res := loopFn P hs call 48 k Try.f48 [1, 1, 0, 1, 0] [] n [(0, AV.d (D.list 3 v0)), (1, AV.d (D.list 3 v1)), (5, AV.d (D.int IntKind.i64 v2))] []
theorem F48.L4.zero (k : Nat) (call : CallF)  (v0 : Ovi.Rows) (v1 : Ovi.Rows) (v2 : Int) : F48.L4 k call  0 v0 v1 v2 = none := by kernel_rfl
theorem F48.L4.succ (k : Nat) (call : CallF)  (n : Nat) (v0 : Ovi.Rows) (v1 : Ovi.Rows) (v2 : Int) : F48.L4 k call  (n + 1) v0 v1 v2 = ite' (decide (v2 < (↑(List.length v0) : Int))) (ite' (inR v2 (List.length v0)) (bindI (cellI IntKind.i64 v0 v2.toNat 0) fun n8 => bindI (cellI IntKind.i64 v0 v2.toNat 1) fun n9 => bindL (cellL 1 v0 v2.toNat 2) fun l10 => ite' (inR v2 (List.length v1)) (bindI (cellI IntKind.i64 v1 v2.toNat 0) fun n11 => bindI (cellI IntKind.i64 v1 v2.toNat 1) fun n12 => bindL (cellL 1 v1 v2.toNat 2) fun l13 => bindR (call 81 [AV.agg [AV.d (D.int IntKind.i64 n8), AV.d (D.int IntKind.i64 n9), AV.d (D.list 1 l10)], AV.agg [AV.d (D.int IntKind.i64 n11), AV.d (D.int IntKind.i64 n12), AV.d (D.list 1 l13)]]) fun r14 => bindB (resB 1 false 1 r14 0 0) fun b15 => ite' (!b15) (some ([(false, [RL.d (D.bool false)])])) (F48.L4 k call  (n) (v0) (v1) (IntKind.i64.wrap (v2 + (1 : Int))))) (none)) (none)) (some ([(false, [RL.d (D.bool true)])])) := by kernel_rfl
theorem F48.eq (k : Nat) (call : CallF) (a0 : Ovi.Rows) (a1 : Ovi.Rows) : evFnK P hs call (48 : FuncId) k Try.f48 [AV.d (D.list 3 a0), AV.d (D.list 3 a1)] = ite' ((↑(List.length a0) : Int) != (↑(List.length a1) : Int)) (some ([(false, [RL.d (D.bool false)])])) (F48.L4 k call  (k) (a0) (a1) ((0 : Int))) := by kernel_rfl
theorem F48.run (k : Nat) (a0 : Ovi.Rows) (a1 : Ovi.Rows) : C (k + 1) 48 [AV.d (D.list 3 a0), AV.d (D.list 3 a1)] = ite' ((↑(List.length a0) : Int) != (↑(List.length a1) : Int)) (some ([(false, [RL.d (D.bool false)])])) (F48.L4 k (C k)  (k) (a0) (a1) ((0 : Int))) := (show C (k + 1) 48 [AV.d (D.list 3 a0), AV.d (D.list 3 a1)] = evFnK P hs (C k) 48 k Try.f48 [AV.d (D.list 3 a0), AV.d (D.list 3 a1)] by kernel_rfl).trans (F48.eq k (C k) a0 a1)
noncomputable def F50.L2 (k : Nat) (call : CallF)  (n : Nat) (v0 : Ovi.Rows) (v1 : Int) (v2 : Int) : Option Res := loopFn P hs call 50 k Try.f50 [1, 0, 1, 0] [] n [(0, AV.d (D.list 3 v0)), (1, AV.d (D.int IntKind.i64 v1)), (5, AV.d (D.int IntKind.i64 v2))] []
theorem F50.L2.zero (k : Nat) (call : CallF)  (v0 : Ovi.Rows) (v1 : Int) (v2 : Int) : F50.L2 k call  0 v0 v1 v2 = none := by kernel_rfl
theorem F50.L2.succ (k : Nat) (call : CallF)  (n : Nat) (v0 : Ovi.Rows) (v1 : Int) (v2 : Int) : F50.L2 k call  (n + 1) v0 v1 v2 = ite' (decide (v2 < (↑(List.length v0) : Int))) (ite' (inR v2 (List.length v0)) (bindI (cellI IntKind.i64 v0 v2.toNat 0) fun n8 => ite' (n8 != v1) (some ([(false, [RL.d (D.int IntKind.i64 (-1 : Int))])])) (ite' (inR v2 (List.length v0)) (bindI (cellI IntKind.i64 v0 v2.toNat 1) fun n9 => ite' (n9 != IntKind.i64.wrap (v1 + (1 : Int))) (some ([(false, [RL.d (D.int IntKind.i64 (-1 : Int))])])) (ite' (inR v2 (List.length v0)) (bindL (cellL 1 v0 v2.toNat 2) fun l10 => bindR (call 60 [AV.d (D.list 1 l10), AV.d (D.int IntKind.i64 (IntKind.i64.wrap (IntKind.i64.wrap (v1 + (1 : Int)) + (1 : Int))))]) fun r11 => bindI (resI IntKind.i64 1 false 1 r11 0 0) fun n12 => ite' (decide (n12 < (0 : Int))) (some ([(false, [RL.d (D.int IntKind.i64 (-1 : Int))])])) (F50.L2 k call  (n) (v0) (n12) (IntKind.i64.wrap (v2 + (1 : Int))))) (none))) (none))) (none)) (some ([(false, [RL.d (D.int IntKind.i64 v1)])])) := by kernel_rfl
theorem F50.eq (k : Nat) (call : CallF) (a0 : Ovi.Rows) (a1 : Int) : evFnK P hs call (50 : FuncId) k Try.f50 [AV.d (D.list 3 a0), AV.d (D.int IntKind.i64 a1)] = F50.L2 k call  (k) (a0) (a1) ((0 : Int)) := by kernel_rfl
theorem F50.run (k : Nat) (a0 : Ovi.Rows) (a1 : Int) : C (k + 1) 50 [AV.d (D.list 3 a0), AV.d (D.int IntKind.i64 a1)] = F50.L2 k (C k)  (k) (a0) (a1) ((0 : Int)) := (show C (k + 1) 50 [AV.d (D.list 3 a0), AV.d (D.int IntKind.i64 a1)] = evFnK P hs (C k) 50 k Try.f50 [AV.d (D.list 3 a0), AV.d (D.int IntKind.i64 a1)] by kernel_rfl).trans (F50.eq k (C k) a0 a1)
noncomputable def F51.L3 (k : Nat) (call : CallF)  (n : Nat) (v0 : List (List D)) (v1 : Int) (v2 : Ovi.Rows) (v3 : Ovi.Rows) : Option Res := loopFn P hs call 51 k Try.f51 [1, 1, 0, 1, 0] [] n [(1, AV.var 64 0), (3, AV.d (D.list 1 v0)), (4, AV.d (D.int IntKind.i64 v1))] [(64, Blk.var [AV.d (D.list 3 v2), AV.d (D.list 2 v3)])]
noncomputable def F51.L7 (k : Nat) (call : CallF) (k3 : Nat) (n : Nat) (v0 : List (List D)) (v1 : Int) (v2 : Ovi.Rows) (v3 : Int) (v4 : Ovi.Rows) (v5 : Ovi.Rows) : Option Res := loopFn P hs call 51 k Try.f51 [1, 1, 0, 1, 0, 0, 1, 0, 0, 1, 1, 0] [k3] n [(1, AV.var 64 0), (3, AV.d (D.list 1 v0)), (4, AV.d (D.int IntKind.i64 v1)), (5, AV.d (D.list 1 v2)), (6, AV.d (D.int IntKind.i64 v3))] [(64, Blk.var [AV.d (D.list 3 v4), AV.d (D.list 2 v5)])]
theorem F51.L3.zero (k : Nat) (call : CallF)  (v0 : List (List D)) (v1 : Int) (v2 : Ovi.Rows) (v3 : Ovi.Rows) : F51.L3 k call  0 v0 v1 v2 v3 = none := by kernel_rfl
theorem F51.L3.succ (k : Nat) (call : CallF)  (n : Nat) (v0 : List (List D)) (v1 : Int) (v2 : Ovi.Rows) (v3 : Ovi.Rows) : F51.L3 k call  (n + 1) v0 v1 v2 v3 = ite' (decide (v1 < (↑(List.length v3) : Int))) (ite' (inR v1 (List.length v3)) (bindI (cellI IntKind.i64 v3 v1.toNat 0) fun n9 => bindL (cellL 1 v3 v1.toNat 1) fun l10 => bindR (call 29 [AV.agg [AV.d (D.int IntKind.i64 n9), AV.d (D.list 1 l10)]]) fun r11 => bindL (resL 1 1 false 1 r11 0 0) fun l12 => F51.L7 k call n (k) (v0) (v1) (l12) ((0 : Int)) (v2) (v3)) (none)) (some ([(false, [RL.d (D.list 1 v0)])])) := by kernel_rfl
theorem F51.L7.zero (k : Nat) (call : CallF) (k3 : Nat) (v0 : List (List D)) (v1 : Int) (v2 : Ovi.Rows) (v3 : Int) (v4 : Ovi.Rows) (v5 : Ovi.Rows) : F51.L7 k call k3 0 v0 v1 v2 v3 v4 v5 = none := by kernel_rfl
theorem F51.L7.succ (k : Nat) (call : CallF) (k3 : Nat) (n : Nat) (v0 : List (List D)) (v1 : Int) (v2 : Ovi.Rows) (v3 : Int) (v4 : Ovi.Rows) (v5 : Ovi.Rows) : F51.L7 k call k3 (n + 1) v0 v1 v2 v3 v4 v5 = ite' (decide (v3 < (↑(List.length v2) : Int))) (ite' (inR v3 (List.length v2)) (bindI (cellI IntKind.i64 v2 v3.toNat 0) fun n12 => bindR (call 67 [AV.d (D.list 1 v0), AV.d (D.int IntKind.i64 n12)]) fun r13 => bindL (resL 1 1 false 1 r13 0 0) fun l14 => F51.L7 k call k3 (n) (l14) (v1) (v2) (IntKind.i64.wrap (v3 + (1 : Int))) (v4) (v5)) (none)) (F51.L3 k call  (k3) (v0) (IntKind.i64.wrap (v1 + (1 : Int))) (v4) (v5)) := by kernel_rfl
theorem F51.eq (k : Nat) (call : CallF) (a0_0 : Ovi.Rows) (a0_1 : Ovi.Rows) : evFnK P hs call (51 : FuncId) k Try.f51 [AV.agg [AV.d (D.list 3 a0_0), AV.d (D.list 2 a0_1)]] = F51.L3 k call  (k) ([]) ((0 : Int)) (a0_0) (a0_1) := by kernel_rfl
theorem F51.run (k : Nat) (a0_0 : Ovi.Rows) (a0_1 : Ovi.Rows) : C (k + 1) 51 [AV.agg [AV.d (D.list 3 a0_0), AV.d (D.list 2 a0_1)]] = F51.L3 k (C k)  (k) ([]) ((0 : Int)) (a0_0) (a0_1) := (show C (k + 1) 51 [AV.agg [AV.d (D.list 3 a0_0), AV.d (D.list 2 a0_1)]] = evFnK P hs (C k) 51 k Try.f51 [AV.agg [AV.d (D.list 3 a0_0), AV.d (D.list 2 a0_1)]] by kernel_rfl).trans (F51.eq k (C k) a0_0 a0_1)
theorem F52.eq (k : Nat) (call : CallF) (a0_0 : Int) (a0_1 : Ovi.Rows) : evFnK P hs call (52 : FuncId) k Try.f52 [AV.agg [AV.d (D.int IntKind.i64 a0_0), AV.d (D.list 1 a0_1)]] = bindR (call 82 [AV.d (D.list 1 a0_1)]) fun r4 => bindL (resO 3 1 1 false 1 r4 0 0) fun l5 => some ([(false, [RL.row 3 1 l5])]) := by kernel_rfl
theorem F52.run (k : Nat) (a0_0 : Int) (a0_1 : Ovi.Rows) : C (k + 1) 52 [AV.agg [AV.d (D.int IntKind.i64 a0_0), AV.d (D.list 1 a0_1)]] = bindR ((C k) 82 [AV.d (D.list 1 a0_1)]) fun r4 => bindL (resO 3 1 1 false 1 r4 0 0) fun l5 => some ([(false, [RL.row 3 1 l5])]) := (show C (k + 1) 52 [AV.agg [AV.d (D.int IntKind.i64 a0_0), AV.d (D.list 1 a0_1)]] = evFnK P hs (C k) 52 k Try.f52 [AV.agg [AV.d (D.int IntKind.i64 a0_0), AV.d (D.list 1 a0_1)]] by kernel_rfl).trans (F52.eq k (C k) a0_0 a0_1)
theorem F53.eq (k : Nat) (call : CallF) (a0 : Ovi.Rows) (a1 : FuncId) (a1c : Ovi.Rows) : evFnK P hs call (53 : FuncId) k Try.f53 [AV.d (D.list 1 a0), AV.d (D.fn a1 a1c)] = bindR (call 83 [AV.d (D.list 1 a0), AV.d (D.fn a1 a1c)]) fun r5 => bindI (resI IntKind.i64 1 false 1 r5 0 0) fun n6 => some ([(false, [RL.d (D.bool (decide (n6 ≥ (0 : Int))))])]) := by kernel_rfl
theorem F53.run (k : Nat) (a0 : Ovi.Rows) (a1 : FuncId) (a1c : Ovi.Rows) : C (k + 1) 53 [AV.d (D.list 1 a0), AV.d (D.fn a1 a1c)] = bindR ((C k) 83 [AV.d (D.list 1 a0), AV.d (D.fn a1 a1c)]) fun r5 => bindI (resI IntKind.i64 1 false 1 r5 0 0) fun n6 => some ([(false, [RL.d (D.bool (decide (n6 ≥ (0 : Int))))])]) := (show C (k + 1) 53 [AV.d (D.list 1 a0), AV.d (D.fn a1 a1c)] = evFnK P hs (C k) 53 k Try.f53 [AV.d (D.list 1 a0), AV.d (D.fn a1 a1c)] by kernel_rfl).trans (F53.eq k (C k) a0 a1 a1c)
theorem F54.eq (k : Nat) (call : CallF) (a0 : Int) (c0_0 : Ovi.Rows) : evFnK P hs call (54 : FuncId) k Try.f54 [AV.d (D.int IntKind.i64 a0), AV.cap [D.list 1 c0_0] 0] = bindR (call 55 [AV.d (D.list 1 c0_0), AV.d (D.int IntKind.i64 a0)]) fun r4 => bindB (resB 1 false 1 r4 0 0) fun b5 => some ([(false, [RL.d (D.bool b5)])]) := by kernel_rfl
theorem F54.run (k : Nat) (a0 : Int) (c0_0 : Ovi.Rows) : C (k + 1) 54 [AV.d (D.int IntKind.i64 a0), AV.cap [D.list 1 c0_0] 0] = bindR ((C k) 55 [AV.d (D.list 1 c0_0), AV.d (D.int IntKind.i64 a0)]) fun r4 => bindB (resB 1 false 1 r4 0 0) fun b5 => some ([(false, [RL.d (D.bool b5)])]) := (show C (k + 1) 54 [AV.d (D.int IntKind.i64 a0), AV.cap [D.list 1 c0_0] 0] = evFnK P hs (C k) 54 k Try.f54 [AV.d (D.int IntKind.i64 a0), AV.cap [D.list 1 c0_0] 0] by kernel_rfl).trans (F54.eq k (C k) a0 c0_0)
theorem F55.eq (k : Nat) (call : CallF) (a0 : Ovi.Rows) (a1 : Int) : evFnK P hs call (55 : FuncId) k Try.f55 [AV.d (D.list 1 a0), AV.d (D.int IntKind.i64 a1)] = bindR (call 84 [AV.d (D.list 1 a0), AV.d (D.int IntKind.i64 a1)]) fun r4 => bindI (resI IntKind.i64 1 false 1 r4 0 0) fun n5 => some ([(false, [RL.d (D.bool (decide (n5 ≥ (0 : Int))))])]) := by kernel_rfl
theorem F55.run (k : Nat) (a0 : Ovi.Rows) (a1 : Int) : C (k + 1) 55 [AV.d (D.list 1 a0), AV.d (D.int IntKind.i64 a1)] = bindR ((C k) 84 [AV.d (D.list 1 a0), AV.d (D.int IntKind.i64 a1)]) fun r4 => bindI (resI IntKind.i64 1 false 1 r4 0 0) fun n5 => some ([(false, [RL.d (D.bool (decide (n5 ≥ (0 : Int))))])]) := (show C (k + 1) 55 [AV.d (D.list 1 a0), AV.d (D.int IntKind.i64 a1)] = evFnK P hs (C k) 55 k Try.f55 [AV.d (D.list 1 a0), AV.d (D.int IntKind.i64 a1)] by kernel_rfl).trans (F55.eq k (C k) a0 a1)
noncomputable def F59.L2 (k : Nat) (call : CallF)  (n : Nat) (v0 : Ovi.Rows) (v1 : Ovi.Rows) (v2 : Ovi.Rows) (v3 : Int) (v4 : Int) : Option Res := loopFn P hs call 59 k Try.f59 [1, 0, 1, 0] [] n [(0, AV.d (D.list 1 v0)), (1, AV.d (D.list 1 v1)), (9, AV.d (D.list 1 v2)), (10, AV.d (D.int IntKind.i64 v3)), (11, AV.d (D.int IntKind.i64 v4))] []
theorem F59.L2.zero (k : Nat) (call : CallF)  (v0 : Ovi.Rows) (v1 : Ovi.Rows) (v2 : Ovi.Rows) (v3 : Int) (v4 : Int) : F59.L2 k call  0 v0 v1 v2 v3 v4 = none := by kernel_rfl
theorem F59.L2.succ (k : Nat) (call : CallF)  (n : Nat) (v0 : Ovi.Rows) (v1 : Ovi.Rows) (v2 : Ovi.Rows) (v3 : Int) (v4 : Int) : F59.L2 k call  (n + 1) v0 v1 v2 v3 v4 = ite' (decide (v4 < v3)) (ite' (inR v4 (List.length v2)) (bindI (cellI IntKind.i64 v2 v4.toNat 0) fun n10 => ite' (decide (v4 ≥ (↑(List.length v1) : Int))) (some ([(false, [RL.d (D.int IntKind.i64 (1 : Int))])])) (ite' (inR v4 (List.length v1)) (bindI (cellI IntKind.i64 v1 v4.toNat 0) fun n11 => bindR (call 88 [AV.d (D.int IntKind.i64 n10), AV.d (D.int IntKind.i64 n11)]) fun r12 => bindI (resI IntKind.i64 1 false 1 r12 0 0) fun n13 => ite' (n13 != (0 : Int)) (some ([(false, [RL.d (D.int IntKind.i64 n13)])])) (F59.L2 k call  (n) (v0) (v1) (v2) (v3) (IntKind.i64.wrap (v4 + (1 : Int))))) (none))) (none)) (ite' (decide ((↑(List.length v0) : Int) < (↑(List.length v1) : Int))) (some ([(false, [RL.d (D.int IntKind.i64 (-1 : Int))])])) (some ([(false, [RL.d (D.int IntKind.i64 (0 : Int))])]))) := by kernel_rfl
theorem F59.eq (k : Nat) (call : CallF) (a0 : Ovi.Rows) (a1 : Ovi.Rows) : evFnK P hs call (59 : FuncId) k Try.f59 [AV.d (D.list 1 a0), AV.d (D.list 1 a1)] = F59.L2 k call  (k) (a0) (a1) (a0) ((↑(List.length a0) : Int)) ((0 : Int)) := by kernel_rfl
theorem F59.run (k : Nat) (a0 : Ovi.Rows) (a1 : Ovi.Rows) : C (k + 1) 59 [AV.d (D.list 1 a0), AV.d (D.list 1 a1)] = F59.L2 k (C k)  (k) (a0) (a1) (a0) ((↑(List.length a0) : Int)) ((0 : Int)) := (show C (k + 1) 59 [AV.d (D.list 1 a0), AV.d (D.list 1 a1)] = evFnK P hs (C k) 59 k Try.f59 [AV.d (D.list 1 a0), AV.d (D.list 1 a1)] by kernel_rfl).trans (F59.eq k (C k) a0 a1)
noncomputable def F60.L2 (k : Nat) (call : CallF)  (n : Nat) (v0 : Ovi.Rows) (v1 : Int) (v2 : Int) : Option Res := loopFn P hs call 60 k Try.f60 [1, 0, 1, 0] [] n [(0, AV.d (D.list 1 v0)), (1, AV.d (D.int IntKind.i64 v1)), (5, AV.d (D.int IntKind.i64 v2))] []
theorem F60.L2.zero (k : Nat) (call : CallF)  (v0 : Ovi.Rows) (v1 : Int) (v2 : Int) : F60.L2 k call  0 v0 v1 v2 = none := by kernel_rfl
theorem F60.L2.succ (k : Nat) (call : CallF)  (n : Nat) (v0 : Ovi.Rows) (v1 : Int) (v2 : Int) : F60.L2 k call  (n + 1) v0 v1 v2 = ite' (decide (v2 < (↑(List.length v0) : Int))) (ite' (inR v2 (List.length v0)) (bindI (cellI IntKind.i64 v0 v2.toNat 0) fun n8 => ite' (n8 != v1) (some ([(false, [RL.d (D.int IntKind.i64 (-1 : Int))])])) (F60.L2 k call  (n) (v0) (IntKind.i64.wrap (v1 + (1 : Int))) (IntKind.i64.wrap (v2 + (1 : Int))))) (none)) (some ([(false, [RL.d (D.int IntKind.i64 v1)])])) := by kernel_rfl
theorem F60.eq (k : Nat) (call : CallF) (a0 : Ovi.Rows) (a1 : Int) : evFnK P hs call (60 : FuncId) k Try.f60 [AV.d (D.list 1 a0), AV.d (D.int IntKind.i64 a1)] = F60.L2 k call  (k) (a0) (a1) ((0 : Int)) := by kernel_rfl
theorem F60.run (k : Nat) (a0 : Ovi.Rows) (a1 : Int) : C (k + 1) 60 [AV.d (D.list 1 a0), AV.d (D.int IntKind.i64 a1)] = F60.L2 k (C k)  (k) (a0) (a1) ((0 : Int)) := (show C (k + 1) 60 [AV.d (D.list 1 a0), AV.d (D.int IntKind.i64 a1)] = evFnK P hs (C k) 60 k Try.f60 [AV.d (D.list 1 a0), AV.d (D.int IntKind.i64 a1)] by kernel_rfl).trans (F60.eq k (C k) a0 a1)
theorem F61.eq (k : Nat) (call : CallF) (a0_0 : List UInt8) (a0_1 : Int) (a0_2 : Bool) (a1 : Int) : evFnK P hs call (61 : FuncId) k Try.f61 [AV.agg [AV.d (D.str a0_0), AV.d (D.int IntKind.i64 a0_1), AV.d (D.bool a0_2)], AV.d (D.int IntKind.i64 a1)] = ite' (decide (IntKind.i64.wrap (a1 - (↑a0_0.length : Int)) < (0 : Int))) (some ([(false, [RL.d (D.int IntKind.i64 (-1 : Int))])])) (some ([(false, [RL.d (D.int IntKind.i64 (IntKind.i64.wrap (a1 - (↑a0_0.length : Int))))])])) := by kernel_rfl
theorem F61.run (k : Nat) (a0_0 : List UInt8) (a0_1 : Int) (a0_2 : Bool) (a1 : Int) : C (k + 1) 61 [AV.agg [AV.d (D.str a0_0), AV.d (D.int IntKind.i64 a0_1), AV.d (D.bool a0_2)], AV.d (D.int IntKind.i64 a1)] = ite' (decide (IntKind.i64.wrap (a1 - (↑a0_0.length : Int)) < (0 : Int))) (some ([(false, [RL.d (D.int IntKind.i64 (-1 : Int))])])) (some ([(false, [RL.d (D.int IntKind.i64 (IntKind.i64.wrap (a1 - (↑a0_0.length : Int))))])])) := (show C (k + 1) 61 [AV.agg [AV.d (D.str a0_0), AV.d (D.int IntKind.i64 a0_1), AV.d (D.bool a0_2)], AV.d (D.int IntKind.i64 a1)] = evFnK P hs (C k) 61 k Try.f61 [AV.agg [AV.d (D.str a0_0), AV.d (D.int IntKind.i64 a0_1), AV.d (D.bool a0_2)], AV.d (D.int IntKind.i64 a1)] by kernel_rfl).trans (F61.eq k (C k) a0_0 a0_1 a0_2 a1)
theorem F62.eq (k : Nat) (call : CallF) (a0_0 : Int) (a0_1 : Ovi.Rows) (a1 : Int) : evFnK P hs call (62 : FuncId) k Try.f62 [AV.agg [AV.d (D.int IntKind.i64 a0_0), AV.d (D.list 1 a0_1)], AV.d (D.int IntKind.i64 a1)] = bindR (call 89 [AV.d (D.list 1 a0_1), AV.d (D.int IntKind.i64 a1)]) fun r5 => bindI (resI IntKind.i64 1 false 1 r5 0 0) fun n6 => ite' (decide (n6 < (0 : Int))) (some ([(false, [RL.d (D.int IntKind.i64 (-1 : Int))])])) (some ([(false, [RL.d (D.int IntKind.i64 n6)])])) := by kernel_rfl
theorem F62.run (k : Nat) (a0_0 : Int) (a0_1 : Ovi.Rows) (a1 : Int) : C (k + 1) 62 [AV.agg [AV.d (D.int IntKind.i64 a0_0), AV.d (D.list 1 a0_1)], AV.d (D.int IntKind.i64 a1)] = bindR ((C k) 89 [AV.d (D.list 1 a0_1), AV.d (D.int IntKind.i64 a1)]) fun r5 => bindI (resI IntKind.i64 1 false 1 r5 0 0) fun n6 => ite' (decide (n6 < (0 : Int))) (some ([(false, [RL.d (D.int IntKind.i64 (-1 : Int))])])) (some ([(false, [RL.d (D.int IntKind.i64 n6)])])) := (show C (k + 1) 62 [AV.agg [AV.d (D.int IntKind.i64 a0_0), AV.d (D.list 1 a0_1)], AV.d (D.int IntKind.i64 a1)] = evFnK P hs (C k) 62 k Try.f62 [AV.agg [AV.d (D.int IntKind.i64 a0_0), AV.d (D.list 1 a0_1)], AV.d (D.int IntKind.i64 a1)] by kernel_rfl).trans (F62.eq k (C k) a0_0 a0_1 a1)
noncomputable def F63.L4 (k : Nat) (call : CallF)  (n : Nat) (v0 : Int) (v1 : Int) (v2 : Ovi.Rows) : Option Res := loopFn P hs call 63 k Try.f63 [1, 1, 0, 1, 0] [] n [(3, AV.var 192 0), (5, AV.d (D.int IntKind.i64 v0))] [(192, Blk.var [AV.d (D.int IntKind.i64 v1), AV.d (D.list 1 v2)])]
theorem F63.L4.zero (k : Nat) (call : CallF)  (v0 : Int) (v1 : Int) (v2 : Ovi.Rows) : F63.L4 k call  0 v0 v1 v2 = none := by kernel_rfl
theorem F63.L4.succ (k : Nat) (call : CallF)  (n : Nat) (v0 : Int) (v1 : Int) (v2 : Ovi.Rows) : F63.L4 k call  (n + 1) v0 v1 v2 = ite' (decide (v0 < (↑(List.length v2) : Int))) (ite' (inR v0 (List.length v2)) (bindI (cellI IntKind.i64 v2 v0.toNat 0) fun n9 => bindR (call 91 [AV.d (D.int IntKind.i64 n9)]) fun r10 => bindB (resB 1 false 1 r10 0 0) fun b11 => ite' (!b11) (some ([(false, [RL.d (D.bool false)])])) (F63.L4 k call  (n) (IntKind.i64.wrap (v0 + (1 : Int))) (v1) (v2))) (none)) (some ([(false, [RL.d (D.bool true)])])) := by kernel_rfl
theorem F63.eq (k : Nat) (call : CallF) (a0 : Ovi.Rows) (a1_0 : Int) (a1_1 : Ovi.Rows) : evFnK P hs call (63 : FuncId) k Try.f63 [AV.d (D.list 3 a0), AV.agg [AV.d (D.int IntKind.i64 a1_0), AV.d (D.list 1 a1_1)]] = bindR (call 65 [AV.d (D.list 3 a0)]) fun r5 => bindB (resB 1 false 1 r5 0 0) fun b6 => ite' (!b6) (some ([(false, [RL.d (D.bool false)])])) (bindR (call 90 [AV.d (D.int IntKind.i64 a1_0), AV.d (D.int IntKind.i64 (0 : Int)), AV.d (D.int IntKind.i64 (IntKind.i64.wrap ((↑(List.length a0) : Int) - (1 : Int))))]) fun r7 => bindB (resB 1 false 1 r7 0 0) fun b8 => ite' (!b8) (some ([(false, [RL.d (D.bool false)])])) (ite' (inR a1_0 (List.length a0)) (bindI (cellI IntKind.i64 a0 a1_0.toNat 1) fun n9 => ite' ((↑(List.length a1_1) : Int) != n9) (some ([(false, [RL.d (D.bool false)])])) (F63.L4 k call  (k) ((0 : Int)) (a1_0) (a1_1))) (none))) := by kernel_rfl
theorem F63.run (k : Nat) (a0 : Ovi.Rows) (a1_0 : Int) (a1_1 : Ovi.Rows) : C (k + 1) 63 [AV.d (D.list 3 a0), AV.agg [AV.d (D.int IntKind.i64 a1_0), AV.d (D.list 1 a1_1)]] = bindR ((C k) 65 [AV.d (D.list 3 a0)]) fun r5 => bindB (resB 1 false 1 r5 0 0) fun b6 => ite' (!b6) (some ([(false, [RL.d (D.bool false)])])) (bindR ((C k) 90 [AV.d (D.int IntKind.i64 a1_0), AV.d (D.int IntKind.i64 (0 : Int)), AV.d (D.int IntKind.i64 (IntKind.i64.wrap ((↑(List.length a0) : Int) - (1 : Int))))]) fun r7 => bindB (resB 1 false 1 r7 0 0) fun b8 => ite' (!b8) (some ([(false, [RL.d (D.bool false)])])) (ite' (inR a1_0 (List.length a0)) (bindI (cellI IntKind.i64 a0 a1_0.toNat 1) fun n9 => ite' ((↑(List.length a1_1) : Int) != n9) (some ([(false, [RL.d (D.bool false)])])) (F63.L4 k (C k)  (k) ((0 : Int)) (a1_0) (a1_1))) (none))) := (show C (k + 1) 63 [AV.d (D.list 3 a0), AV.agg [AV.d (D.int IntKind.i64 a1_0), AV.d (D.list 1 a1_1)]] = evFnK P hs (C k) 63 k Try.f63 [AV.d (D.list 3 a0), AV.agg [AV.d (D.int IntKind.i64 a1_0), AV.d (D.list 1 a1_1)]] by kernel_rfl).trans (F63.eq k (C k) a0 a1_0 a1_1)
theorem F64.eq (k : Nat) (call : CallF) (a0_0 : Int) (a0_1 : Ovi.Rows) (a1_0 : Int) (a1_1 : Ovi.Rows) : evFnK P hs call (64 : FuncId) k Try.f64 [AV.agg [AV.d (D.int IntKind.i64 a0_0), AV.d (D.list 1 a0_1)], AV.agg [AV.d (D.int IntKind.i64 a1_0), AV.d (D.list 1 a1_1)]] = ite' (decide (a0_0 < a1_0)) (some ([(false, [RL.d (D.int IntKind.i64 (-1 : Int))])])) (ite' (decide (a0_0 > a1_0)) (some ([(false, [RL.d (D.int IntKind.i64 (1 : Int))])])) (bindR (call 92 [AV.d (D.list 1 a0_1), AV.d (D.list 1 a1_1)]) fun r6 => bindI (resI IntKind.i64 1 false 1 r6 0 0) fun n7 => some ([(false, [RL.d (D.int IntKind.i64 n7)])]))) := by kernel_rfl
theorem F64.run (k : Nat) (a0_0 : Int) (a0_1 : Ovi.Rows) (a1_0 : Int) (a1_1 : Ovi.Rows) : C (k + 1) 64 [AV.agg [AV.d (D.int IntKind.i64 a0_0), AV.d (D.list 1 a0_1)], AV.agg [AV.d (D.int IntKind.i64 a1_0), AV.d (D.list 1 a1_1)]] = ite' (decide (a0_0 < a1_0)) (some ([(false, [RL.d (D.int IntKind.i64 (-1 : Int))])])) (ite' (decide (a0_0 > a1_0)) (some ([(false, [RL.d (D.int IntKind.i64 (1 : Int))])])) (bindR ((C k) 92 [AV.d (D.list 1 a0_1), AV.d (D.list 1 a1_1)]) fun r6 => bindI (resI IntKind.i64 1 false 1 r6 0 0) fun n7 => some ([(false, [RL.d (D.int IntKind.i64 n7)])]))) := (show C (k + 1) 64 [AV.agg [AV.d (D.int IntKind.i64 a0_0), AV.d (D.list 1 a0_1)], AV.agg [AV.d (D.int IntKind.i64 a1_0), AV.d (D.list 1 a1_1)]] = evFnK P hs (C k) 64 k Try.f64 [AV.agg [AV.d (D.int IntKind.i64 a0_0), AV.d (D.list 1 a0_1)], AV.agg [AV.d (D.int IntKind.i64 a1_0), AV.d (D.list 1 a1_1)]] by kernel_rfl).trans (F64.eq k (C k) a0_0 a0_1 a1_0 a1_1)
noncomputable def F65.L2 (k : Nat) (call : CallF)  (n : Nat) (v0 : Ovi.Rows) (v1 : Int) : Option Res := loopFn P hs call 65 k Try.f65 [1, 0, 1, 0] [] n [(0, AV.d (D.list 3 v0)), (3, AV.d (D.int IntKind.i64 v1))] []
theorem F65.L2.zero (k : Nat) (call : CallF)  (v0 : Ovi.Rows) (v1 : Int) : F65.L2 k call  0 v0 v1 = none := by kernel_rfl
theorem F65.L2.succ (k : Nat) (call : CallF)  (n : Nat) (v0 : Ovi.Rows) (v1 : Int) : F65.L2 k call  (n + 1) v0 v1 = ite' (decide (v1 < (↑(List.length v0) : Int))) (ite' (inR v1 (List.length v0)) (bindS (cellS v0 v1.toNat 0) fun s6 => bindI (cellI IntKind.i64 v0 v1.toNat 1) fun n7 => bindB (cellB v0 v1.toNat 2) fun b8 => bindR (call 93 [AV.agg [AV.d (D.str s6), AV.d (D.int IntKind.i64 n7), AV.d (D.bool b8)]]) fun r9 => bindB (resB 1 false 1 r9 0 0) fun b10 => ite' (!b10) (some ([(false, [RL.d (D.bool false)])])) (ite' (decide (v1 > (0 : Int))) (ite' (inR (IntKind.i64.wrap (v1 - (1 : Int))) (List.length v0)) (bindS (cellS v0 (IntKind.i64.wrap (v1 - (1 : Int))).toNat 0) fun s11 => ite' (inR v1 (List.length v0)) (bindS (cellS v0 v1.toNat 0) fun s12 => ite' (!sLess s11 s12) (some ([(false, [RL.d (D.bool false)])])) (F65.L2 k call  (n) (v0) (IntKind.i64.wrap (v1 + (1 : Int))))) (none)) (none)) (F65.L2 k call  (n) (v0) (IntKind.i64.wrap (v1 + (1 : Int)))))) (none)) (some ([(false, [RL.d (D.bool (decide ((↑(List.length v0) : Int) ≤ (6 : Int))))])])) := by kernel_rfl
theorem F65.eq (k : Nat) (call : CallF) (a0 : Ovi.Rows) : evFnK P hs call (65 : FuncId) k Try.f65 [AV.d (D.list 3 a0)] = F65.L2 k call  (k) (a0) ((0 : Int)) := by kernel_rfl
theorem F65.run (k : Nat) (a0 : Ovi.Rows) : C (k + 1) 65 [AV.d (D.list 3 a0)] = F65.L2 k (C k)  (k) (a0) ((0 : Int)) := (show C (k + 1) 65 [AV.d (D.list 3 a0)] = evFnK P hs (C k) 65 k Try.f65 [AV.d (D.list 3 a0)] by kernel_rfl).trans (F65.eq k (C k) a0)
theorem F66.eq (k : Nat) (call : CallF) (a0 : Int) : evFnK P hs call (66 : FuncId) k Try.f66 [AV.d (D.int IntKind.i64 a0)] = ite' (decide (a0 ≥ (0 : Int))) (some ([(false, [RL.d (D.int IntKind.i64 (0 : Int))]), (false, [RL.d (D.bool false)])])) (bindR (call 90 [AV.d (D.int IntKind.i64 (IntKind.i64.wrap ((-1 : Int) - a0))), AV.d (D.int IntKind.i64 (0 : Int)), AV.d (D.int IntKind.i64 (39 : Int))]) fun r3 => bindB (resB 1 false 1 r3 0 0) fun b4 => ite' (!b4) (some ([(false, [RL.d (D.int IntKind.i64 (0 : Int))]), (false, [RL.d (D.bool false)])])) (some ([(false, [RL.d (D.int IntKind.i64 (IntKind.i64.wrap ((-1 : Int) - a0)))]), (false, [RL.d (D.bool true)])]))) := by kernel_rfl
theorem F66.run (k : Nat) (a0 : Int) : C (k + 1) 66 [AV.d (D.int IntKind.i64 a0)] = ite' (decide (a0 ≥ (0 : Int))) (some ([(false, [RL.d (D.int IntKind.i64 (0 : Int))]), (false, [RL.d (D.bool false)])])) (bindR ((C k) 90 [AV.d (D.int IntKind.i64 (IntKind.i64.wrap ((-1 : Int) - a0))), AV.d (D.int IntKind.i64 (0 : Int)), AV.d (D.int IntKind.i64 (39 : Int))]) fun r3 => bindB (resB 1 false 1 r3 0 0) fun b4 => ite' (!b4) (some ([(false, [RL.d (D.int IntKind.i64 (0 : Int))]), (false, [RL.d (D.bool false)])])) (some ([(false, [RL.d (D.int IntKind.i64 (IntKind.i64.wrap ((-1 : Int) - a0)))]), (false, [RL.d (D.bool true)])]))) := (show C (k + 1) 66 [AV.d (D.int IntKind.i64 a0)] = evFnK P hs (C k) 66 k Try.f66 [AV.d (D.int IntKind.i64 a0)] by kernel_rfl).trans (F66.eq k (C k) a0)
noncomputable def F67.L2 (k : Nat) (call : CallF)  (n : Nat) (v0 : Ovi.Rows) (v1 : Int) (v2 : Int) : Option Res := loopFn P hs call 67 k Try.f67 [1, 1, 0, 0] [] n [(0, AV.d (D.list 1 v0)), (1, AV.d (D.int IntKind.i64 v1)), (5, AV.d (D.int IntKind.i64 v2))] []
theorem F67.L2.zero (k : Nat) (call : CallF)  (v0 : Ovi.Rows) (v1 : Int) (v2 : Int) : F67.L2 k call  0 v0 v1 v2 = none := by kernel_rfl
theorem F67.L2.succ (k : Nat) (call : CallF)  (n : Nat) (v0 : Ovi.Rows) (v1 : Int) (v2 : Int) : F67.L2 k call  (n + 1) v0 v1 v2 = ite' (decide (v2 < (↑(List.length v0) : Int))) (ite' (inR v2 (List.length v0)) (bindI (cellI IntKind.i64 v0 v2.toNat 0) fun n8 => ite' (decide (n8 < v1)) (F67.L2 k call  (n) (v0) (v1) (IntKind.i64.wrap (v2 + (1 : Int)))) (ite' (decide (v2 < (↑(List.length v0) : Int))) (ite' (inR v2 (List.length v0)) (bindI (cellI IntKind.i64 v0 v2.toNat 0) fun n9 => ite' (n9 == v1) (some ([(false, [RL.d (D.list 1 v0)])])) (ite' (inS v2 (↑(List.length v0) : Int) (List.length v0)) (ite' (fits ([[D.int IntKind.i64 v1]].length + (List.drop v2.toNat v0).length)) (ite' (inS (0 : Int) v2 (List.length v0)) (ite' (fits (List.take v2.toNat v0).length) (ite' (fits ((List.take v2.toNat v0).length + List.length ([[D.int IntKind.i64 v1]] ++ List.drop v2.toNat v0))) (some ([(false, [RL.row 3 1 (List.take v2.toNat v0 ++ ([[D.int IntKind.i64 v1]] ++ List.drop v2.toNat v0))])])) (none)) (none)) (none)) (none)) (none))) (none)) (ite' (inS v2 (↑(List.length v0) : Int) (List.length v0)) (ite' (fits ([[D.int IntKind.i64 v1]].length + (List.drop v2.toNat v0).length)) (ite' (inS (0 : Int) v2 (List.length v0)) (ite' (fits (List.take v2.toNat v0).length) (ite' (fits ((List.take v2.toNat v0).length + List.length ([[D.int IntKind.i64 v1]] ++ List.drop v2.toNat v0))) (some ([(false, [RL.row 3 1 (List.take v2.toNat v0 ++ ([[D.int IntKind.i64 v1]] ++ List.drop v2.toNat v0))])])) (none)) (none)) (none)) (none)) (none)))) (none)) (ite' (decide (v2 < (↑(List.length v0) : Int))) (ite' (inR v2 (List.length v0)) (bindI (cellI IntKind.i64 v0 v2.toNat 0) fun n8 => ite' (n8 == v1) (some ([(false, [RL.d (D.list 1 v0)])])) (ite' (inS v2 (↑(List.length v0) : Int) (List.length v0)) (ite' (fits ([[D.int IntKind.i64 v1]].length + (List.drop v2.toNat v0).length)) (ite' (inS (0 : Int) v2 (List.length v0)) (ite' (fits (List.take v2.toNat v0).length) (ite' (fits ((List.take v2.toNat v0).length + List.length ([[D.int IntKind.i64 v1]] ++ List.drop v2.toNat v0))) (some ([(false, [RL.row 3 1 (List.take v2.toNat v0 ++ ([[D.int IntKind.i64 v1]] ++ List.drop v2.toNat v0))])])) (none)) (none)) (none)) (none)) (none))) (none)) (ite' (inS v2 (↑(List.length v0) : Int) (List.length v0)) (ite' (fits ([[D.int IntKind.i64 v1]].length + (List.drop v2.toNat v0).length)) (ite' (inS (0 : Int) v2 (List.length v0)) (ite' (fits (List.take v2.toNat v0).length) (ite' (fits ((List.take v2.toNat v0).length + List.length ([[D.int IntKind.i64 v1]] ++ List.drop v2.toNat v0))) (some ([(false, [RL.row 3 1 (List.take v2.toNat v0 ++ ([[D.int IntKind.i64 v1]] ++ List.drop v2.toNat v0))])])) (none)) (none)) (none)) (none)) (none))) := by kernel_rfl
theorem F67.eq (k : Nat) (call : CallF) (a0 : Ovi.Rows) (a1 : Int) : evFnK P hs call (67 : FuncId) k Try.f67 [AV.d (D.list 1 a0), AV.d (D.int IntKind.i64 a1)] = F67.L2 k call  (k) (a0) (a1) ((0 : Int)) := by kernel_rfl
theorem F67.run (k : Nat) (a0 : Ovi.Rows) (a1 : Int) : C (k + 1) 67 [AV.d (D.list 1 a0), AV.d (D.int IntKind.i64 a1)] = F67.L2 k (C k)  (k) (a0) (a1) ((0 : Int)) := (show C (k + 1) 67 [AV.d (D.list 1 a0), AV.d (D.int IntKind.i64 a1)] = evFnK P hs (C k) 67 k Try.f67 [AV.d (D.list 1 a0), AV.d (D.int IntKind.i64 a1)] by kernel_rfl).trans (F67.eq k (C k) a0 a1)
theorem F68.eq (k : Nat) (call : CallF) (a0_0 : List UInt8) (a0_1 : Int) (a0_2 : Bool) : evFnK P hs call (68 : FuncId) k Try.f68 [AV.agg [AV.d (D.str a0_0), AV.d (D.int IntKind.i64 a0_1), AV.d (D.bool a0_2)]] = some ([(true, [RL.d (D.str a0_0), RL.d (D.int IntKind.i64 a0_1), RL.d (D.bool a0_2)])]) := by kernel_rfl
theorem F68.run (k : Nat) (a0_0 : List UInt8) (a0_1 : Int) (a0_2 : Bool) : C (k + 1) 68 [AV.agg [AV.d (D.str a0_0), AV.d (D.int IntKind.i64 a0_1), AV.d (D.bool a0_2)]] = some ([(true, [RL.d (D.str a0_0), RL.d (D.int IntKind.i64 a0_1), RL.d (D.bool a0_2)])]) := (show C (k + 1) 68 [AV.agg [AV.d (D.str a0_0), AV.d (D.int IntKind.i64 a0_1), AV.d (D.bool a0_2)]] = evFnK P hs (C k) 68 k Try.f68 [AV.agg [AV.d (D.str a0_0), AV.d (D.int IntKind.i64 a0_1), AV.d (D.bool a0_2)]] by kernel_rfl).trans (F68.eq k (C k) a0_0 a0_1 a0_2)
theorem F69.eq (k : Nat) (call : CallF) (a0_0 : Int) (a0_1 : Ovi.Rows) : evFnK P hs call (69 : FuncId) k Try.f69 [AV.agg [AV.d (D.int IntKind.i64 a0_0), AV.d (D.list 1 a0_1)]] = bindR (call 9 [AV.d (D.list 1 a0_1)]) fun r4 => bindL (resO 3 1 1 false 1 r4 0 0) fun l5 => some ([(true, [RL.d (D.int IntKind.i64 a0_0), RL.row 3 1 l5])]) := by kernel_rfl
theorem F69.run (k : Nat) (a0_0 : Int) (a0_1 : Ovi.Rows) : C (k + 1) 69 [AV.agg [AV.d (D.int IntKind.i64 a0_0), AV.d (D.list 1 a0_1)]] = bindR ((C k) 9 [AV.d (D.list 1 a0_1)]) fun r4 => bindL (resO 3 1 1 false 1 r4 0 0) fun l5 => some ([(true, [RL.d (D.int IntKind.i64 a0_0), RL.row 3 1 l5])]) := (show C (k + 1) 69 [AV.agg [AV.d (D.int IntKind.i64 a0_0), AV.d (D.list 1 a0_1)]] = evFnK P hs (C k) 69 k Try.f69 [AV.agg [AV.d (D.int IntKind.i64 a0_0), AV.d (D.list 1 a0_1)]] by kernel_rfl).trans (F69.eq k (C k) a0_0 a0_1)
noncomputable def F70.L2 (k : Nat) (call : CallF)  (n : Nat) (v0 : Ovi.Rows) (v1 : Ovi.Rows) (v2 : Int) (v3 : Int) : Option Res := loopFn P hs call 70 k Try.f70 [1, 0, 1, 0] [] n [(0, AV.d (D.list 3 v0)), (5, AV.d (D.list 3 v1)), (6, AV.d (D.int IntKind.i64 v2)), (7, AV.d (D.int IntKind.i64 v3))] []
theorem F70.L2.zero (k : Nat) (call : CallF)  (v0 : Ovi.Rows) (v1 : Ovi.Rows) (v2 : Int) (v3 : Int) : F70.L2 k call  0 v0 v1 v2 v3 = none := by kernel_rfl
theorem F70.L2.succ (k : Nat) (call : CallF)  (n : Nat) (v0 : Ovi.Rows) (v1 : Ovi.Rows) (v2 : Int) (v3 : Int) : F70.L2 k call  (n + 1) v0 v1 v2 v3 = ite' (decide (v3 < v2)) (ite' (inR v3 (List.length v1)) (bindS (cellS v1 v3.toNat 0) fun s8 => bindI (cellI IntKind.i64 v1 v3.toNat 1) fun n9 => bindB (cellB v1 v3.toNat 2) fun b10 => bindR (call 94 [AV.agg [AV.d (D.str s8), AV.d (D.int IntKind.i64 n9), AV.d (D.bool b10)]]) fun r11 => bindB (resB 1 false 1 r11 0 0) fun b12 => ite' (!b12) (some ([(false, [RL.d (D.bool false)])])) (ite' (decide (v3 > (0 : Int))) (ite' (inR (IntKind.i64.wrap (v3 - (1 : Int))) (List.length v0)) (bindS (cellS v0 (IntKind.i64.wrap (v3 - (1 : Int))).toNat 0) fun s13 => ite' (sLess s8 s13 || s8 == s13) (some ([(false, [RL.d (D.bool false)])])) (F70.L2 k call  (n) (v0) (v1) (v2) (IntKind.i64.wrap (v3 + (1 : Int))))) (none)) (F70.L2 k call  (n) (v0) (v1) (v2) (IntKind.i64.wrap (v3 + (1 : Int)))))) (none)) (some ([(false, [RL.d (D.bool (decide ((↑(List.length v0) : Int) ≤ (6 : Int))))])])) := by kernel_rfl
theorem F70.eq (k : Nat) (call : CallF) (a0 : Ovi.Rows) : evFnK P hs call (70 : FuncId) k Try.f70 [AV.d (D.list 3 a0)] = F70.L2 k call  (k) (a0) (a0) ((↑(List.length a0) : Int)) ((0 : Int)) := by kernel_rfl
theorem F70.run (k : Nat) (a0 : Ovi.Rows) : C (k + 1) 70 [AV.d (D.list 3 a0)] = F70.L2 k (C k)  (k) (a0) (a0) ((↑(List.length a0) : Int)) ((0 : Int)) := (show C (k + 1) 70 [AV.d (D.list 3 a0)] = evFnK P hs (C k) 70 k Try.f70 [AV.d (D.list 3 a0)] by kernel_rfl).trans (F70.eq k (C k) a0)
theorem F71.eq (k : Nat) (call : CallF) (a0 : Ovi.Rows) (a1_0 : Int) (a1_1 : Ovi.Rows) : evFnK P hs call (71 : FuncId) k Try.f71 [AV.d (D.list 3 a0), AV.agg [AV.d (D.int IntKind.i64 a1_0), AV.d (D.list 1 a1_1)]] = bindR (call 70 [AV.d (D.list 3 a0)]) fun r5 => bindB (resB 1 false 1 r5 0 0) fun b6 => ite' (!b6) (some ([(false, [RL.d (D.bool false)])])) (bindR (call 95 [AV.d (D.int IntKind.i64 a1_0), AV.d (D.int IntKind.i64 (0 : Int)), AV.d (D.int IntKind.i64 (IntKind.i64.wrap ((↑(List.length a0) : Int) - (1 : Int))))]) fun r7 => bindB (resB 1 false 1 r7 0 0) fun b8 => ite' (!b8) (some ([(false, [RL.d (D.bool false)])])) (ite' (inR a1_0 (List.length a0)) (bindI (cellI IntKind.i64 a0 a1_0.toNat 1) fun n9 => ite' ((↑(List.length a1_1) : Int) != n9) (some ([(false, [RL.d (D.bool false)])])) (bindR (call 53 [AV.d (D.list 1 a1_1), AV.d (D.fn 96 [])]) fun r10 => bindB (resB 1 false 1 r10 0 0) fun b11 => some ([(false, [RL.d (D.bool !b11)])]))) (none))) := by kernel_rfl
theorem F71.run (k : Nat) (a0 : Ovi.Rows) (a1_0 : Int) (a1_1 : Ovi.Rows) : C (k + 1) 71 [AV.d (D.list 3 a0), AV.agg [AV.d (D.int IntKind.i64 a1_0), AV.d (D.list 1 a1_1)]] = bindR ((C k) 70 [AV.d (D.list 3 a0)]) fun r5 => bindB (resB 1 false 1 r5 0 0) fun b6 => ite' (!b6) (some ([(false, [RL.d (D.bool false)])])) (bindR ((C k) 95 [AV.d (D.int IntKind.i64 a1_0), AV.d (D.int IntKind.i64 (0 : Int)), AV.d (D.int IntKind.i64 (IntKind.i64.wrap ((↑(List.length a0) : Int) - (1 : Int))))]) fun r7 => bindB (resB 1 false 1 r7 0 0) fun b8 => ite' (!b8) (some ([(false, [RL.d (D.bool false)])])) (ite' (inR a1_0 (List.length a0)) (bindI (cellI IntKind.i64 a0 a1_0.toNat 1) fun n9 => ite' ((↑(List.length a1_1) : Int) != n9) (some ([(false, [RL.d (D.bool false)])])) (bindR ((C k) 53 [AV.d (D.list 1 a1_1), AV.d (D.fn 96 [])]) fun r10 => bindB (resB 1 false 1 r10 0 0) fun b11 => some ([(false, [RL.d (D.bool !b11)])]))) (none))) := (show C (k + 1) 71 [AV.d (D.list 3 a0), AV.agg [AV.d (D.int IntKind.i64 a1_0), AV.d (D.list 1 a1_1)]] = evFnK P hs (C k) 71 k Try.f71 [AV.d (D.list 3 a0), AV.agg [AV.d (D.int IntKind.i64 a1_0), AV.d (D.list 1 a1_1)]] by kernel_rfl).trans (F71.eq k (C k) a0 a1_0 a1_1)
theorem F72.eq (k : Nat) (call : CallF) (a0_0 : Int) (a0_1 : Ovi.Rows) (a1_0 : Int) (a1_1 : Ovi.Rows) : evFnK P hs call (72 : FuncId) k Try.f72 [AV.agg [AV.d (D.int IntKind.i64 a0_0), AV.d (D.list 1 a0_1)], AV.agg [AV.d (D.int IntKind.i64 a1_0), AV.d (D.list 1 a1_1)]] = bindR (call 88 [AV.d (D.int IntKind.i64 a0_0), AV.d (D.int IntKind.i64 a1_0)]) fun r6 => bindI (resI IntKind.i64 1 false 1 r6 0 0) fun n7 => bindR (call 59 [AV.d (D.list 1 a0_1), AV.d (D.list 1 a1_1)]) fun r8 => bindI (resI IntKind.i64 1 false 1 r8 0 0) fun n9 => bindR (call 98 [AV.d (D.list 1 [[D.int IntKind.i64 n7], [D.int IntKind.i64 n9]])]) fun r10 => bindI (resI IntKind.i64 1 false 1 r10 0 0) fun n11 => some ([(false, [RL.d (D.int IntKind.i64 n11)])]) := by kernel_rfl
theorem F72.run (k : Nat) (a0_0 : Int) (a0_1 : Ovi.Rows) (a1_0 : Int) (a1_1 : Ovi.Rows) : C (k + 1) 72 [AV.agg [AV.d (D.int IntKind.i64 a0_0), AV.d (D.list 1 a0_1)], AV.agg [AV.d (D.int IntKind.i64 a1_0), AV.d (D.list 1 a1_1)]] = bindR ((C k) 88 [AV.d (D.int IntKind.i64 a0_0), AV.d (D.int IntKind.i64 a1_0)]) fun r6 => bindI (resI IntKind.i64 1 false 1 r6 0 0) fun n7 => bindR ((C k) 59 [AV.d (D.list 1 a0_1), AV.d (D.list 1 a1_1)]) fun r8 => bindI (resI IntKind.i64 1 false 1 r8 0 0) fun n9 => bindR ((C k) 98 [AV.d (D.list 1 [[D.int IntKind.i64 n7], [D.int IntKind.i64 n9]])]) fun r10 => bindI (resI IntKind.i64 1 false 1 r10 0 0) fun n11 => some ([(false, [RL.d (D.int IntKind.i64 n11)])]) := (show C (k + 1) 72 [AV.agg [AV.d (D.int IntKind.i64 a0_0), AV.d (D.list 1 a0_1)], AV.agg [AV.d (D.int IntKind.i64 a1_0), AV.d (D.list 1 a1_1)]] = evFnK P hs (C k) 72 k Try.f72 [AV.agg [AV.d (D.int IntKind.i64 a0_0), AV.d (D.list 1 a0_1)], AV.agg [AV.d (D.int IntKind.i64 a1_0), AV.d (D.list 1 a1_1)]] by kernel_rfl).trans (F72.eq k (C k) a0_0 a0_1 a1_0 a1_1)
noncomputable def F74.L3 (k : Nat) (call : CallF)  (n : Nat) (v0 : Ovi.Rows) (v1 : Int) (v2 : Int) (v3 : List (List D)) : Option Res := loopFn P hs call 74 k Try.f74 [1, 1, 0, 1, 0] [] n [(3, AV.own 100003 0), (7, AV.d (D.list 2 v0)), (8, AV.d (D.int IntKind.i64 v1)), (9, AV.d (D.int IntKind.i64 v2))] [(100003, Blk.arr 58 2 0 v3 (1, 0, 0))]
theorem F74.L3.zero (k : Nat) (call : CallF)  (v0 : Ovi.Rows) (v1 : Int) (v2 : Int) (v3 : List (List D)) : F74.L3 k call  0 v0 v1 v2 v3 = none := by kernel_rfl
theorem F74.L3.succ (k : Nat) (call : CallF)  (n : Nat) (v0 : Ovi.Rows) (v1 : Int) (v2 : Int) (v3 : List (List D)) : F74.L3 k call  (n + 1) v0 v1 v2 v3 = ite' (decide (v2 < v1)) (ite' (inR v2 (List.length v0)) (bindI (cellI IntKind.i64 v0 v2.toNat 0) fun n8 => bindL (cellL 1 v0 v2.toNat 1) fun l9 => bindR (call 99 [AV.agg [AV.d (D.int IntKind.i64 n8), AV.d (D.list 1 l9)]]) fun r10 => bindI (resI IntKind.i64 1 true 2 r10 0 0) fun n11 => bindL (resO 3 1 1 true 2 r10 0 1) fun l12 => ite' (fits (v3.length + [[D.int IntKind.i64 n11, D.list 1 l12]].length)) (F74.L3 k call  (n) (v0) (v1) (IntKind.i64.wrap (v2 + (1 : Int))) (v3 ++ [[D.int IntKind.i64 n11, D.list 1 l12]])) (none)) (none)) (some ([(false, [RL.frow 58 2 1 v3])])) := by kernel_rfl
theorem F74.eq (k : Nat) (call : CallF) (a0 : Ovi.Rows) : evFnK P hs call (74 : FuncId) k Try.f74 [AV.d (D.list 2 a0)] = F74.L3 k call  (k) (a0) ((↑(List.length a0) : Int)) ((0 : Int)) ([]) := by kernel_rfl
theorem F74.run (k : Nat) (a0 : Ovi.Rows) : C (k + 1) 74 [AV.d (D.list 2 a0)] = F74.L3 k (C k)  (k) (a0) ((↑(List.length a0) : Int)) ((0 : Int)) ([]) := (show C (k + 1) 74 [AV.d (D.list 2 a0)] = evFnK P hs (C k) 74 k Try.f74 [AV.d (D.list 2 a0)] by kernel_rfl).trans (F74.eq k (C k) a0)
theorem F77.eq (k : Nat) (call : CallF) (a0_0 : List UInt8) (a0_1 : Int) (a0_2 : Bool) (a1_0 : List UInt8) (a1_1 : Int) (a1_2 : Bool) : evFnK P hs call (77 : FuncId) k Try.f77 [AV.agg [AV.d (D.str a0_0), AV.d (D.int IntKind.i64 a0_1), AV.d (D.bool a0_2)], AV.agg [AV.d (D.str a1_0), AV.d (D.int IntKind.i64 a1_1), AV.d (D.bool a1_2)]] = ite' (!a0_0 == a1_0) (some ([(false, [RL.d (D.bool false)])])) (ite' (a0_1 != a1_1) (some ([(false, [RL.d (D.bool false)])])) (ite' (!a0_2 == a1_2) (some ([(false, [RL.d (D.bool false)])])) (some ([(false, [RL.d (D.bool true)])])))) := by kernel_rfl
theorem F77.run (k : Nat) (a0_0 : List UInt8) (a0_1 : Int) (a0_2 : Bool) (a1_0 : List UInt8) (a1_1 : Int) (a1_2 : Bool) : C (k + 1) 77 [AV.agg [AV.d (D.str a0_0), AV.d (D.int IntKind.i64 a0_1), AV.d (D.bool a0_2)], AV.agg [AV.d (D.str a1_0), AV.d (D.int IntKind.i64 a1_1), AV.d (D.bool a1_2)]] = ite' (!a0_0 == a1_0) (some ([(false, [RL.d (D.bool false)])])) (ite' (a0_1 != a1_1) (some ([(false, [RL.d (D.bool false)])])) (ite' (!a0_2 == a1_2) (some ([(false, [RL.d (D.bool false)])])) (some ([(false, [RL.d (D.bool true)])])))) := (show C (k + 1) 77 [AV.agg [AV.d (D.str a0_0), AV.d (D.int IntKind.i64 a0_1), AV.d (D.bool a0_2)], AV.agg [AV.d (D.str a1_0), AV.d (D.int IntKind.i64 a1_1), AV.d (D.bool a1_2)]] = evFnK P hs (C k) 77 k Try.f77 [AV.agg [AV.d (D.str a0_0), AV.d (D.int IntKind.i64 a0_1), AV.d (D.bool a0_2)], AV.agg [AV.d (D.str a1_0), AV.d (D.int IntKind.i64 a1_1), AV.d (D.bool a1_2)]] by kernel_rfl).trans (F77.eq k (C k) a0_0 a0_1 a0_2 a1_0 a1_1 a1_2)
theorem F78.eq (k : Nat) (call : CallF) (a0_0 : Int) (a0_1 : Ovi.Rows) (a1_0 : Int) (a1_1 : Ovi.Rows) : evFnK P hs call (78 : FuncId) k Try.f78 [AV.agg [AV.d (D.int IntKind.i64 a0_0), AV.d (D.list 1 a0_1)], AV.agg [AV.d (D.int IntKind.i64 a1_0), AV.d (D.list 1 a1_1)]] = ite' (a0_0 != a1_0) (some ([(false, [RL.d (D.bool false)])])) (bindR (call 12 [AV.d (D.list 1 a0_1), AV.d (D.list 1 a1_1)]) fun r6 => bindB (resB 1 false 1 r6 0 0) fun b7 => ite' (!b7) (some ([(false, [RL.d (D.bool false)])])) (some ([(false, [RL.d (D.bool true)])]))) := by kernel_rfl
theorem F78.run (k : Nat) (a0_0 : Int) (a0_1 : Ovi.Rows) (a1_0 : Int) (a1_1 : Ovi.Rows) : C (k + 1) 78 [AV.agg [AV.d (D.int IntKind.i64 a0_0), AV.d (D.list 1 a0_1)], AV.agg [AV.d (D.int IntKind.i64 a1_0), AV.d (D.list 1 a1_1)]] = ite' (a0_0 != a1_0) (some ([(false, [RL.d (D.bool false)])])) (bindR ((C k) 12 [AV.d (D.list 1 a0_1), AV.d (D.list 1 a1_1)]) fun r6 => bindB (resB 1 false 1 r6 0 0) fun b7 => ite' (!b7) (some ([(false, [RL.d (D.bool false)])])) (some ([(false, [RL.d (D.bool true)])]))) := (show C (k + 1) 78 [AV.agg [AV.d (D.int IntKind.i64 a0_0), AV.d (D.list 1 a0_1)], AV.agg [AV.d (D.int IntKind.i64 a1_0), AV.d (D.list 1 a1_1)]] = evFnK P hs (C k) 78 k Try.f78 [AV.agg [AV.d (D.int IntKind.i64 a0_0), AV.d (D.list 1 a0_1)], AV.agg [AV.d (D.int IntKind.i64 a1_0), AV.d (D.list 1 a1_1)]] by kernel_rfl).trans (F78.eq k (C k) a0_0 a0_1 a1_0 a1_1)
noncomputable def F79.L4 (k : Nat) (call : CallF)  (n : Nat) (v0 : Int) (v1 : List UInt8) : Option Res := loopFn P hs call 79 k Try.f79 [1, 1, 1, 0, 0] [] n [(0, AV.d (D.int IntKind.i64 v0)), (3, AV.d (D.str v1))] []
theorem F79.L4.zero (k : Nat) (call : CallF)  (v0 : Int) (v1 : List UInt8) : F79.L4 k call  0 v0 v1 = none := by kernel_rfl
theorem F79.L4.succ (k : Nat) (call : CallF)  (n : Nat) (v0 : Int) (v1 : List UInt8) : F79.L4 k call  (n + 1) v0 v1 = ite' (decide (v0 > (0 : Int))) (bindS (bytesD [[D.int IntKind.u8 (IntKind.u8.wrap (IntKind.i64.wrap ((48 : Int) + v0.tmod (10 : Int))))]]) fun s6 => ite' (fits (s6.length + v1.length)) (F79.L4 k call  (n) (IntKind.i64.wrap (v0.tdiv (10 : Int))) (s6 ++ v1)) (none)) (ite' (fits (1 + v1.length)) (some ([(false, [RL.d (D.str ((109 : UInt8) :: v1))])])) (none)) := by kernel_rfl
theorem F79.eq (k : Nat) (call : CallF) (a0 : Int) : evFnK P hs call (79 : FuncId) k Try.f79 [AV.d (D.int IntKind.i64 a0)] = ite' (decide (a0 ≤ (0 : Int))) (some ([(false, [RL.d (D.str [(109 : UInt8), (48 : UInt8)])])])) (F79.L4 k call  (k) (a0) ([])) := by kernel_rfl
theorem F79.run (k : Nat) (a0 : Int) : C (k + 1) 79 [AV.d (D.int IntKind.i64 a0)] = ite' (decide (a0 ≤ (0 : Int))) (some ([(false, [RL.d (D.str [(109 : UInt8), (48 : UInt8)])])])) (F79.L4 k (C k)  (k) (a0) ([])) := (show C (k + 1) 79 [AV.d (D.int IntKind.i64 a0)] = evFnK P hs (C k) 79 k Try.f79 [AV.d (D.int IntKind.i64 a0)] by kernel_rfl).trans (F79.eq k (C k) a0)
noncomputable def F80.L3 (k : Nat) (call : CallF)  (n : Nat) (v0 : Ovi.Rows) (v1 : Int) (v2 : Int) (v3 : List (List D)) : Option Res := loopFn P hs call 80 k Try.f80 [1, 1, 0, 1, 0] [] n [(3, AV.own 100003 0), (8, AV.d (D.list 2 v0)), (9, AV.d (D.int IntKind.i64 v1)), (10, AV.d (D.int IntKind.i64 v2))] [(100003, Blk.arr 3 1 0 v3 (0, 0, 0))]
theorem F80.L3.zero (k : Nat) (call : CallF)  (v0 : Ovi.Rows) (v1 : Int) (v2 : Int) (v3 : List (List D)) : F80.L3 k call  0 v0 v1 v2 v3 = none := by kernel_rfl
theorem F80.L3.succ (k : Nat) (call : CallF)  (n : Nat) (v0 : Ovi.Rows) (v1 : Int) (v2 : Int) (v3 : List (List D)) : F80.L3 k call  (n + 1) v0 v1 v2 v3 = ite' (decide (v2 < v1)) (ite' (inR v2 (List.length v0)) (bindI (cellI IntKind.i64 v0 v2.toNat 0) fun n9 => bindL (cellL 1 v0 v2.toNat 1) fun l10 => ite' (fits (v3.length + List.length l10)) (F80.L3 k call  (n) (v0) (v1) (IntKind.i64.wrap (v2 + (1 : Int))) (v3 ++ l10)) (none)) (none)) (bindR (call 82 [AV.d (D.list 1 v3)]) fun r9 => bindL (resO 3 1 1 false 1 r9 0 0) fun l10 => some ([(false, [RL.row 3 1 l10])])) := by kernel_rfl
theorem F80.eq (k : Nat) (call : CallF) (a0_0 : Ovi.Rows) (a0_1 : Ovi.Rows) : evFnK P hs call (80 : FuncId) k Try.f80 [AV.agg [AV.d (D.list 3 a0_0), AV.d (D.list 2 a0_1)]] = F80.L3 k call  (k) (a0_1) ((↑(List.length a0_1) : Int)) ((0 : Int)) ([]) := by kernel_rfl
theorem F80.run (k : Nat) (a0_0 : Ovi.Rows) (a0_1 : Ovi.Rows) : C (k + 1) 80 [AV.agg [AV.d (D.list 3 a0_0), AV.d (D.list 2 a0_1)]] = F80.L3 k (C k)  (k) (a0_1) ((↑(List.length a0_1) : Int)) ((0 : Int)) ([]) := (show C (k + 1) 80 [AV.agg [AV.d (D.list 3 a0_0), AV.d (D.list 2 a0_1)]] = evFnK P hs (C k) 80 k Try.f80 [AV.agg [AV.d (D.list 3 a0_0), AV.d (D.list 2 a0_1)]] by kernel_rfl).trans (F80.eq k (C k) a0_0 a0_1)
theorem F81.eq (k : Nat) (call : CallF) (a0_0 : Int) (a0_1 : Int) (a0_2 : Ovi.Rows) (a1_0 : Int) (a1_1 : Int) (a1_2 : Ovi.Rows) : evFnK P hs call (81 : FuncId) k Try.f81 [AV.agg [AV.d (D.int IntKind.i64 a0_0), AV.d (D.int IntKind.i64 a0_1), AV.d (D.list 1 a0_2)], AV.agg [AV.d (D.int IntKind.i64 a1_0), AV.d (D.int IntKind.i64 a1_1), AV.d (D.list 1 a1_2)]] = ite' (a0_0 != a1_0) (some ([(false, [RL.d (D.bool false)])])) (ite' (a0_1 != a1_1) (some ([(false, [RL.d (D.bool false)])])) (bindR (call 12 [AV.d (D.list 1 a0_2), AV.d (D.list 1 a1_2)]) fun r8 => bindB (resB 1 false 1 r8 0 0) fun b9 => ite' (!b9) (some ([(false, [RL.d (D.bool false)])])) (some ([(false, [RL.d (D.bool true)])])))) := by kernel_rfl
theorem F81.run (k : Nat) (a0_0 : Int) (a0_1 : Int) (a0_2 : Ovi.Rows) (a1_0 : Int) (a1_1 : Int) (a1_2 : Ovi.Rows) : C (k + 1) 81 [AV.agg [AV.d (D.int IntKind.i64 a0_0), AV.d (D.int IntKind.i64 a0_1), AV.d (D.list 1 a0_2)], AV.agg [AV.d (D.int IntKind.i64 a1_0), AV.d (D.int IntKind.i64 a1_1), AV.d (D.list 1 a1_2)]] = ite' (a0_0 != a1_0) (some ([(false, [RL.d (D.bool false)])])) (ite' (a0_1 != a1_1) (some ([(false, [RL.d (D.bool false)])])) (bindR ((C k) 12 [AV.d (D.list 1 a0_2), AV.d (D.list 1 a1_2)]) fun r8 => bindB (resB 1 false 1 r8 0 0) fun b9 => ite' (!b9) (some ([(false, [RL.d (D.bool false)])])) (some ([(false, [RL.d (D.bool true)])])))) := (show C (k + 1) 81 [AV.agg [AV.d (D.int IntKind.i64 a0_0), AV.d (D.int IntKind.i64 a0_1), AV.d (D.list 1 a0_2)], AV.agg [AV.d (D.int IntKind.i64 a1_0), AV.d (D.int IntKind.i64 a1_1), AV.d (D.list 1 a1_2)]] = evFnK P hs (C k) 81 k Try.f81 [AV.agg [AV.d (D.int IntKind.i64 a0_0), AV.d (D.int IntKind.i64 a0_1), AV.d (D.list 1 a0_2)], AV.agg [AV.d (D.int IntKind.i64 a1_0), AV.d (D.int IntKind.i64 a1_1), AV.d (D.list 1 a1_2)]] by kernel_rfl).trans (F81.eq k (C k) a0_0 a0_1 a0_2 a1_0 a1_1 a1_2)
noncomputable def F82.L3 (k : Nat) (call : CallF)  (n : Nat) (v0 : Ovi.Rows) (v1 : Int) (v2 : Int) (v3 : List (List D)) : Option Res := loopFn P hs call 82 k Try.f82 [1, 1, 0, 1, 0] [] n [(3, AV.own 100003 0), (9, AV.d (D.list 1 v0)), (10, AV.d (D.int IntKind.i64 v1)), (11, AV.d (D.int IntKind.i64 v2))] [(100003, Blk.arr 3 1 0 v3 (0, 0, 0))]
theorem F82.L3.zero (k : Nat) (call : CallF)  (v0 : Ovi.Rows) (v1 : Int) (v2 : Int) (v3 : List (List D)) : F82.L3 k call  0 v0 v1 v2 v3 = none := by kernel_rfl
theorem F82.L3.succ (k : Nat) (call : CallF)  (n : Nat) (v0 : Ovi.Rows) (v1 : Int) (v2 : Int) (v3 : List (List D)) : F82.L3 k call  (n + 1) v0 v1 v2 v3 = ite' (decide (v2 < v1)) (ite' (inR v2 (List.length v0)) (bindI (cellI IntKind.i64 v0 v2.toNat 0) fun n8 => bindR (call 100 [AV.d (D.int IntKind.i64 n8)]) fun r9 => bindI (resI IntKind.i64 2 false 1 r9 0 0) fun n10 => bindB (resB 2 false 1 r9 1 0) fun b11 => ite' (b11) (ite' (fits (v3.length + [[D.int IntKind.i64 n10]].length)) (F82.L3 k call  (n) (v0) (v1) (IntKind.i64.wrap (v2 + (1 : Int))) (v3 ++ [[D.int IntKind.i64 n10]])) (none)) (F82.L3 k call  (n) (v0) (v1) (IntKind.i64.wrap (v2 + (1 : Int))) (v3))) (none)) (bindR (call 56 [AV.var 0 0, AV.d (D.int IntKind.i64 (↑3 : Int)), AV.d (D.list 1 v3)]) fun r8 => bindL (resO 3 1 1 false 1 r8 0 0) fun l9 => bindR (call 57 [AV.var 0 0, AV.d (D.int IntKind.i64 (↑3 : Int)), AV.d (D.list 1 l9)]) fun r10 => bindL (resO 3 1 2 false 1 r10 0 0) fun l11 => some ([(false, [RL.row 3 1 l11])])) := by kernel_rfl
theorem F82.eq (k : Nat) (call : CallF) (a0 : Ovi.Rows) : evFnK P hs call (82 : FuncId) k Try.f82 [AV.d (D.list 1 a0)] = F82.L3 k call  (k) (a0) ((↑(List.length a0) : Int)) ((0 : Int)) ([]) := by kernel_rfl
theorem F82.run (k : Nat) (a0 : Ovi.Rows) : C (k + 1) 82 [AV.d (D.list 1 a0)] = F82.L3 k (C k)  (k) (a0) ((↑(List.length a0) : Int)) ((0 : Int)) ([]) := (show C (k + 1) 82 [AV.d (D.list 1 a0)] = evFnK P hs (C k) 82 k Try.f82 [AV.d (D.list 1 a0)] by kernel_rfl).trans (F82.eq k (C k) a0)
noncomputable def F83.L2 (k : Nat) (call : CallF)  (n : Nat) (v0 : Ovi.Rows) (v1 : FuncId) (v2 : Ovi.Rows) (v3 : Int) (v4 : Int) : Option Res := loopFn P hs call 83 k Try.f83 [1, 0, 1, 0] [] n [(0, AV.d (D.list 1 v0)), (1, AV.d (D.fn v1 v2)), (7, AV.d (D.int IntKind.i64 v3)), (8, AV.d (D.int IntKind.i64 v4))] []
theorem F83.L2.zero (k : Nat) (call : CallF)  (v0 : Ovi.Rows) (v1 : FuncId) (v2 : Ovi.Rows) (v3 : Int) (v4 : Int) : F83.L2 k call  0 v0 v1 v2 v3 v4 = none := by kernel_rfl
theorem F83.L2.succ (k : Nat) (call : CallF)  (n : Nat) (v0 : Ovi.Rows) (v1 : FuncId) (v2 : Ovi.Rows) (v3 : Int) (v4 : Int) : F83.L2 k call  (n + 1) v0 v1 v2 v3 v4 = ite' (decide (v4 < v3)) (ite' (inR v4 (List.length v0)) (bindI (cellI IntKind.i64 v0 v4.toNat 0) fun n11 => bindR (call v1 (AV.d (D.int IntKind.i64 n11) :: [].append (List.map (fun (c : List D) => AV.cap c 0) v2))) fun r12 => bindB (resB 1 false 1 r12 0 0) fun b13 => ite' (b13) (some ([(false, [RL.d (D.int IntKind.i64 v4)])])) (F83.L2 k call  (n) (v0) (v1) (v2) (v3) (IntKind.i64.wrap (v4 + (1 : Int))))) (none)) (some ([(false, [RL.d (D.int IntKind.i64 (-1 : Int))])])) := by kernel_rfl
theorem F83.eq (k : Nat) (call : CallF) (a0 : Ovi.Rows) (a1 : FuncId) (a1c : Ovi.Rows) : evFnK P hs call (83 : FuncId) k Try.f83 [AV.d (D.list 1 a0), AV.d (D.fn a1 a1c)] = F83.L2 k call  (k) (a0) (a1) (a1c) ((↑(List.length a0) : Int)) ((0 : Int)) := by kernel_rfl
theorem F83.run (k : Nat) (a0 : Ovi.Rows) (a1 : FuncId) (a1c : Ovi.Rows) : C (k + 1) 83 [AV.d (D.list 1 a0), AV.d (D.fn a1 a1c)] = F83.L2 k (C k)  (k) (a0) (a1) (a1c) ((↑(List.length a0) : Int)) ((0 : Int)) := (show C (k + 1) 83 [AV.d (D.list 1 a0), AV.d (D.fn a1 a1c)] = evFnK P hs (C k) 83 k Try.f83 [AV.d (D.list 1 a0), AV.d (D.fn a1 a1c)] by kernel_rfl).trans (F83.eq k (C k) a0 a1 a1c)
noncomputable def F84.L2 (k : Nat) (call : CallF)  (n : Nat) (v0 : Ovi.Rows) (v1 : Int) (v2 : Int) (v3 : Int) : Option Res := loopFn P hs call 84 k Try.f84 [1, 0, 1, 0] [] n [(0, AV.d (D.list 1 v0)), (1, AV.d (D.int IntKind.i64 v1)), (7, AV.d (D.int IntKind.i64 v2)), (8, AV.d (D.int IntKind.i64 v3))] []
theorem F84.L2.zero (k : Nat) (call : CallF)  (v0 : Ovi.Rows) (v1 : Int) (v2 : Int) (v3 : Int) : F84.L2 k call  0 v0 v1 v2 v3 = none := by kernel_rfl
theorem F84.L2.succ (k : Nat) (call : CallF)  (n : Nat) (v0 : Ovi.Rows) (v1 : Int) (v2 : Int) (v3 : Int) : F84.L2 k call  (n + 1) v0 v1 v2 v3 = ite' (decide (v3 < v2)) (ite' (inR v3 (List.length v0)) (bindI (cellI IntKind.i64 v0 v3.toNat 0) fun n9 => ite' (v1 == n9) (some ([(false, [RL.d (D.int IntKind.i64 v3)])])) (F84.L2 k call  (n) (v0) (v1) (v2) (IntKind.i64.wrap (v3 + (1 : Int))))) (none)) (some ([(false, [RL.d (D.int IntKind.i64 (-1 : Int))])])) := by kernel_rfl
theorem F84.eq (k : Nat) (call : CallF) (a0 : Ovi.Rows) (a1 : Int) : evFnK P hs call (84 : FuncId) k Try.f84 [AV.d (D.list 1 a0), AV.d (D.int IntKind.i64 a1)] = F84.L2 k call  (k) (a0) (a1) ((↑(List.length a0) : Int)) ((0 : Int)) := by kernel_rfl
theorem F84.run (k : Nat) (a0 : Ovi.Rows) (a1 : Int) : C (k + 1) 84 [AV.d (D.list 1 a0), AV.d (D.int IntKind.i64 a1)] = F84.L2 k (C k)  (k) (a0) (a1) ((↑(List.length a0) : Int)) ((0 : Int)) := (show C (k + 1) 84 [AV.d (D.list 1 a0), AV.d (D.int IntKind.i64 a1)] = evFnK P hs (C k) 84 k Try.f84 [AV.d (D.list 1 a0), AV.d (D.int IntKind.i64 a1)] by kernel_rfl).trans (F84.eq k (C k) a0 a1)
theorem F88.eq (k : Nat) (call : CallF) (a0 : Int) (a1 : Int) : evFnK P hs call (88 : FuncId) k Try.f88 [AV.d (D.int IntKind.i64 a0), AV.d (D.int IntKind.i64 a1)] = bindR (call 120 [AV.d (D.int IntKind.i64 a0)]) fun r4 => bindB (resB 1 false 1 r4 0 0) fun b5 => bindR (call 120 [AV.d (D.int IntKind.i64 a1)]) fun r6 => bindB (resB 1 false 1 r6 0 0) fun b7 => ite' (b5) (ite' (b7) (some ([(false, [RL.d (D.int IntKind.i64 (0 : Int))])])) (some ([(false, [RL.d (D.int IntKind.i64 (-1 : Int))])]))) (ite' (b7) (some ([(false, [RL.d (D.int IntKind.i64 (1 : Int))])])) (ite' (decide (a0 < a1)) (some ([(false, [RL.d (D.int IntKind.i64 (-1 : Int))])])) (ite' (decide (a0 > a1)) (some ([(false, [RL.d (D.int IntKind.i64 (1 : Int))])])) (some ([(false, [RL.d (D.int IntKind.i64 (0 : Int))])]))))) := by kernel_rfl
theorem F88.run (k : Nat) (a0 : Int) (a1 : Int) : C (k + 1) 88 [AV.d (D.int IntKind.i64 a0), AV.d (D.int IntKind.i64 a1)] = bindR ((C k) 120 [AV.d (D.int IntKind.i64 a0)]) fun r4 => bindB (resB 1 false 1 r4 0 0) fun b5 => bindR ((C k) 120 [AV.d (D.int IntKind.i64 a1)]) fun r6 => bindB (resB 1 false 1 r6 0 0) fun b7 => ite' (b5) (ite' (b7) (some ([(false, [RL.d (D.int IntKind.i64 (0 : Int))])])) (some ([(false, [RL.d (D.int IntKind.i64 (-1 : Int))])]))) (ite' (b7) (some ([(false, [RL.d (D.int IntKind.i64 (1 : Int))])])) (ite' (decide (a0 < a1)) (some ([(false, [RL.d (D.int IntKind.i64 (-1 : Int))])])) (ite' (decide (a0 > a1)) (some ([(false, [RL.d (D.int IntKind.i64 (1 : Int))])])) (some ([(false, [RL.d (D.int IntKind.i64 (0 : Int))])]))))) := (show C (k + 1) 88 [AV.d (D.int IntKind.i64 a0), AV.d (D.int IntKind.i64 a1)] = evFnK P hs (C k) 88 k Try.f88 [AV.d (D.int IntKind.i64 a0), AV.d (D.int IntKind.i64 a1)] by kernel_rfl).trans (F88.eq k (C k) a0 a1)
theorem F89.eq (k : Nat) (call : CallF) (a0 : Ovi.Rows) (a1 : Int) : evFnK P hs call (89 : FuncId) k Try.f89 [AV.d (D.list 1 a0), AV.d (D.int IntKind.i64 a1)] = ite' (decide (IntKind.i64.wrap (a1 - (↑(List.length a0) : Int)) < (0 : Int))) (some ([(false, [RL.d (D.int IntKind.i64 (-1 : Int))])])) (some ([(false, [RL.d (D.int IntKind.i64 (IntKind.i64.wrap (a1 - (↑(List.length a0) : Int))))])])) := by kernel_rfl
theorem F89.run (k : Nat) (a0 : Ovi.Rows) (a1 : Int) : C (k + 1) 89 [AV.d (D.list 1 a0), AV.d (D.int IntKind.i64 a1)] = ite' (decide (IntKind.i64.wrap (a1 - (↑(List.length a0) : Int)) < (0 : Int))) (some ([(false, [RL.d (D.int IntKind.i64 (-1 : Int))])])) (some ([(false, [RL.d (D.int IntKind.i64 (IntKind.i64.wrap (a1 - (↑(List.length a0) : Int))))])])) := (show C (k + 1) 89 [AV.d (D.list 1 a0), AV.d (D.int IntKind.i64 a1)] = evFnK P hs (C k) 89 k Try.f89 [AV.d (D.list 1 a0), AV.d (D.int IntKind.i64 a1)] by kernel_rfl).trans (F89.eq k (C k) a0 a1)
theorem F90.eq (k : Nat) (call : CallF) (a0 : Int) (a1 : Int) (a2 : Int) : evFnK P hs call (90 : FuncId) k Try.f90 [AV.d (D.int IntKind.i64 a0), AV.d (D.int IntKind.i64 a1), AV.d (D.int IntKind.i64 a2)] = ite' (decide (a0 ≥ a1)) (some ([(false, [RL.d (D.bool (decide (a0 ≤ a2)))])])) (some ([(false, [RL.d (D.bool false)])])) := by kernel_rfl
theorem F90.run (k : Nat) (a0 : Int) (a1 : Int) (a2 : Int) : C (k + 1) 90 [AV.d (D.int IntKind.i64 a0), AV.d (D.int IntKind.i64 a1), AV.d (D.int IntKind.i64 a2)] = ite' (decide (a0 ≥ a1)) (some ([(false, [RL.d (D.bool (decide (a0 ≤ a2)))])])) (some ([(false, [RL.d (D.bool false)])])) := (show C (k + 1) 90 [AV.d (D.int IntKind.i64 a0), AV.d (D.int IntKind.i64 a1), AV.d (D.int IntKind.i64 a2)] = evFnK P hs (C k) 90 k Try.f90 [AV.d (D.int IntKind.i64 a0), AV.d (D.int IntKind.i64 a1), AV.d (D.int IntKind.i64 a2)] by kernel_rfl).trans (F90.eq k (C k) a0 a1 a2)
theorem F91.eq (k : Nat) (call : CallF) (a0 : Int) : evFnK P hs call (91 : FuncId) k Try.f91 [AV.d (D.int IntKind.i64 a0)] = bindR (call 66 [AV.d (D.int IntKind.i64 a0)]) fun r3 => bindI (resI IntKind.i64 2 false 1 r3 0 0) fun n4 => bindB (resB 2 false 1 r3 1 0) fun b5 => ite' (b5) (some ([(false, [RL.d (D.bool true)])])) (bindR (call 90 [AV.d (D.int IntKind.i64 a0), AV.d (D.int IntKind.i64 (0 : Int)), AV.d (D.int IntKind.i64 (9 : Int))]) fun r6 => bindB (resB 1 false 1 r6 0 0) fun b7 => some ([(false, [RL.d (D.bool b7)])])) := by kernel_rfl
theorem F91.run (k : Nat) (a0 : Int) : C (k + 1) 91 [AV.d (D.int IntKind.i64 a0)] = bindR ((C k) 66 [AV.d (D.int IntKind.i64 a0)]) fun r3 => bindI (resI IntKind.i64 2 false 1 r3 0 0) fun n4 => bindB (resB 2 false 1 r3 1 0) fun b5 => ite' (b5) (some ([(false, [RL.d (D.bool true)])])) (bindR ((C k) 90 [AV.d (D.int IntKind.i64 a0), AV.d (D.int IntKind.i64 (0 : Int)), AV.d (D.int IntKind.i64 (9 : Int))]) fun r6 => bindB (resB 1 false 1 r6 0 0) fun b7 => some ([(false, [RL.d (D.bool b7)])])) := (show C (k + 1) 91 [AV.d (D.int IntKind.i64 a0)] = evFnK P hs (C k) 91 k Try.f91 [AV.d (D.int IntKind.i64 a0)] by kernel_rfl).trans (F91.eq k (C k) a0)
noncomputable def F92.L2 (k : Nat) (call : CallF)  (n : Nat) (v0 : Ovi.Rows) (v1 : Ovi.Rows) (v2 : Int) : Option Res := loopFn P hs call 92 k Try.f92 [1, 0, 1, 0] [] n [(0, AV.d (D.list 1 v0)), (1, AV.d (D.list 1 v1)), (5, AV.d (D.int IntKind.i64 v2))] []
theorem F92.L2.zero (k : Nat) (call : CallF)  (v0 : Ovi.Rows) (v1 : Ovi.Rows) (v2 : Int) : F92.L2 k call  0 v0 v1 v2 = none := by kernel_rfl
theorem F92.L2.succ (k : Nat) (call : CallF)  (n : Nat) (v0 : Ovi.Rows) (v1 : Ovi.Rows) (v2 : Int) : F92.L2 k call  (n + 1) v0 v1 v2 = ite' (decide (v2 < (↑(List.length v0) : Int))) (ite' (decide (v2 < (↑(List.length v1) : Int))) (ite' (inR v2 (List.length v0)) (bindI (cellI IntKind.i64 v0 v2.toNat 0) fun n8 => ite' (inR v2 (List.length v1)) (bindI (cellI IntKind.i64 v1 v2.toNat 0) fun n9 => ite' (decide (n8 < n9)) (some ([(false, [RL.d (D.int IntKind.i64 (-1 : Int))])])) (ite' (inR v2 (List.length v0)) (bindI (cellI IntKind.i64 v0 v2.toNat 0) fun n10 => ite' (inR v2 (List.length v1)) (bindI (cellI IntKind.i64 v1 v2.toNat 0) fun n11 => ite' (decide (n10 > n11)) (some ([(false, [RL.d (D.int IntKind.i64 (1 : Int))])])) (F92.L2 k call  (n) (v0) (v1) (IntKind.i64.wrap (v2 + (1 : Int))))) (none)) (none))) (none)) (none)) (ite' (decide ((↑(List.length v0) : Int) < (↑(List.length v1) : Int))) (some ([(false, [RL.d (D.int IntKind.i64 (-1 : Int))])])) (ite' (decide ((↑(List.length v0) : Int) > (↑(List.length v1) : Int))) (some ([(false, [RL.d (D.int IntKind.i64 (1 : Int))])])) (some ([(false, [RL.d (D.int IntKind.i64 (0 : Int))])]))))) (ite' (decide ((↑(List.length v0) : Int) < (↑(List.length v1) : Int))) (some ([(false, [RL.d (D.int IntKind.i64 (-1 : Int))])])) (ite' (decide ((↑(List.length v0) : Int) > (↑(List.length v1) : Int))) (some ([(false, [RL.d (D.int IntKind.i64 (1 : Int))])])) (some ([(false, [RL.d (D.int IntKind.i64 (0 : Int))])])))) := by kernel_rfl
theorem F92.eq (k : Nat) (call : CallF) (a0 : Ovi.Rows) (a1 : Ovi.Rows) : evFnK P hs call (92 : FuncId) k Try.f92 [AV.d (D.list 1 a0), AV.d (D.list 1 a1)] = F92.L2 k call  (k) (a0) (a1) ((0 : Int)) := by kernel_rfl
theorem F92.run (k : Nat) (a0 : Ovi.Rows) (a1 : Ovi.Rows) : C (k + 1) 92 [AV.d (D.list 1 a0), AV.d (D.list 1 a1)] = F92.L2 k (C k)  (k) (a0) (a1) ((0 : Int)) := (show C (k + 1) 92 [AV.d (D.list 1 a0), AV.d (D.list 1 a1)] = evFnK P hs (C k) 92 k Try.f92 [AV.d (D.list 1 a0), AV.d (D.list 1 a1)] by kernel_rfl).trans (F92.eq k (C k) a0 a1)
theorem F93.eq (k : Nat) (call : CallF) (a0_0 : List UInt8) (a0_1 : Int) (a0_2 : Bool) : evFnK P hs call (93 : FuncId) k Try.f93 [AV.agg [AV.d (D.str a0_0), AV.d (D.int IntKind.i64 a0_1), AV.d (D.bool a0_2)]] = ite' ((↑a0_0.length : Int) == (1 : Int)) (ite' (inR (0 : Int) a0_0.length) (ite' (decide (byteAt a0_0 (0 : Int) ≥ (97 : Int))) (ite' (inR (0 : Int) a0_0.length) (ite' (decide (byteAt a0_0 (0 : Int) ≤ (122 : Int))) (bindR (call 90 [AV.d (D.int IntKind.i64 a0_1), AV.d (D.int IntKind.i64 (1 : Int)), AV.d (D.int IntKind.i64 (3 : Int))]) fun r5 => bindB (resB 1 false 1 r5 0 0) fun b6 => some ([(false, [RL.d (D.bool b6)])])) (some ([(false, [RL.d (D.bool false)])]))) (none)) (some ([(false, [RL.d (D.bool false)])]))) (none)) (some ([(false, [RL.d (D.bool false)])])) := by kernel_rfl
theorem F93.run (k : Nat) (a0_0 : List UInt8) (a0_1 : Int) (a0_2 : Bool) : C (k + 1) 93 [AV.agg [AV.d (D.str a0_0), AV.d (D.int IntKind.i64 a0_1), AV.d (D.bool a0_2)]] = ite' ((↑a0_0.length : Int) == (1 : Int)) (ite' (inR (0 : Int) a0_0.length) (ite' (decide (byteAt a0_0 (0 : Int) ≥ (97 : Int))) (ite' (inR (0 : Int) a0_0.length) (ite' (decide (byteAt a0_0 (0 : Int) ≤ (122 : Int))) (bindR ((C k) 90 [AV.d (D.int IntKind.i64 a0_1), AV.d (D.int IntKind.i64 (1 : Int)), AV.d (D.int IntKind.i64 (3 : Int))]) fun r5 => bindB (resB 1 false 1 r5 0 0) fun b6 => some ([(false, [RL.d (D.bool b6)])])) (some ([(false, [RL.d (D.bool false)])]))) (none)) (some ([(false, [RL.d (D.bool false)])]))) (none)) (some ([(false, [RL.d (D.bool false)])])) := (show C (k + 1) 93 [AV.agg [AV.d (D.str a0_0), AV.d (D.int IntKind.i64 a0_1), AV.d (D.bool a0_2)]] = evFnK P hs (C k) 93 k Try.f93 [AV.agg [AV.d (D.str a0_0), AV.d (D.int IntKind.i64 a0_1), AV.d (D.bool a0_2)]] by kernel_rfl).trans (F93.eq k (C k) a0_0 a0_1 a0_2)
theorem F94.eq (k : Nat) (call : CallF) (a0_0 : List UInt8) (a0_1 : Int) (a0_2 : Bool) : evFnK P hs call (94 : FuncId) k Try.f94 [AV.agg [AV.d (D.str a0_0), AV.d (D.int IntKind.i64 a0_1), AV.d (D.bool a0_2)]] = ite' ((↑a0_0.length : Int) == (1 : Int)) (ite' (!sLess a0_0 ([(97 : UInt8)] : List UInt8)) (ite' (sLess a0_0 ([(122 : UInt8)] : List UInt8) || a0_0 == ([(122 : UInt8)] : List UInt8)) (bindR (call 95 [AV.d (D.int IntKind.i64 a0_1), AV.d (D.int IntKind.i64 (1 : Int)), AV.d (D.int IntKind.i64 (3 : Int))]) fun r5 => bindB (resB 1 false 1 r5 0 0) fun b6 => some ([(false, [RL.d (D.bool b6)])])) (some ([(false, [RL.d (D.bool false)])]))) (some ([(false, [RL.d (D.bool false)])]))) (some ([(false, [RL.d (D.bool false)])])) := by kernel_rfl
theorem F94.run (k : Nat) (a0_0 : List UInt8) (a0_1 : Int) (a0_2 : Bool) : C (k + 1) 94 [AV.agg [AV.d (D.str a0_0), AV.d (D.int IntKind.i64 a0_1), AV.d (D.bool a0_2)]] = ite' ((↑a0_0.length : Int) == (1 : Int)) (ite' (!sLess a0_0 ([(97 : UInt8)] : List UInt8)) (ite' (sLess a0_0 ([(122 : UInt8)] : List UInt8) || a0_0 == ([(122 : UInt8)] : List UInt8)) (bindR ((C k) 95 [AV.d (D.int IntKind.i64 a0_1), AV.d (D.int IntKind.i64 (1 : Int)), AV.d (D.int IntKind.i64 (3 : Int))]) fun r5 => bindB (resB 1 false 1 r5 0 0) fun b6 => some ([(false, [RL.d (D.bool b6)])])) (some ([(false, [RL.d (D.bool false)])]))) (some ([(false, [RL.d (D.bool false)])]))) (some ([(false, [RL.d (D.bool false)])])) := (show C (k + 1) 94 [AV.agg [AV.d (D.str a0_0), AV.d (D.int IntKind.i64 a0_1), AV.d (D.bool a0_2)]] = evFnK P hs (C k) 94 k Try.f94 [AV.agg [AV.d (D.str a0_0), AV.d (D.int IntKind.i64 a0_1), AV.d (D.bool a0_2)]] by kernel_rfl).trans (F94.eq k (C k) a0_0 a0_1 a0_2)
theorem F95.eq (k : Nat) (call : CallF) (a0 : Int) (a1 : Int) (a2 : Int) : evFnK P hs call (95 : FuncId) k Try.f95 [AV.d (D.int IntKind.i64 a0), AV.d (D.int IntKind.i64 a1), AV.d (D.int IntKind.i64 a2)] = ite' (decide (a1 ≤ a0)) (some ([(false, [RL.d (D.bool (decide (a0 ≤ a2)))])])) (some ([(false, [RL.d (D.bool false)])])) := by kernel_rfl
theorem F95.run (k : Nat) (a0 : Int) (a1 : Int) (a2 : Int) : C (k + 1) 95 [AV.d (D.int IntKind.i64 a0), AV.d (D.int IntKind.i64 a1), AV.d (D.int IntKind.i64 a2)] = ite' (decide (a1 ≤ a0)) (some ([(false, [RL.d (D.bool (decide (a0 ≤ a2)))])])) (some ([(false, [RL.d (D.bool false)])])) := (show C (k + 1) 95 [AV.d (D.int IntKind.i64 a0), AV.d (D.int IntKind.i64 a1), AV.d (D.int IntKind.i64 a2)] = evFnK P hs (C k) 95 k Try.f95 [AV.d (D.int IntKind.i64 a0), AV.d (D.int IntKind.i64 a1), AV.d (D.int IntKind.i64 a2)] by kernel_rfl).trans (F95.eq k (C k) a0 a1 a2)
theorem F96.eq (k : Nat) (call : CallF) (a0 : Int) : evFnK P hs call (96 : FuncId) k Try.f96 [AV.d (D.int IntKind.i64 a0)] = bindR (call 97 [AV.d (D.int IntKind.i64 a0)]) fun r3 => bindB (resB 1 false 1 r3 0 0) fun b4 => some ([(false, [RL.d (D.bool !b4)])]) := by kernel_rfl
theorem F96.run (k : Nat) (a0 : Int) : C (k + 1) 96 [AV.d (D.int IntKind.i64 a0)] = bindR ((C k) 97 [AV.d (D.int IntKind.i64 a0)]) fun r3 => bindB (resB 1 false 1 r3 0 0) fun b4 => some ([(false, [RL.d (D.bool !b4)])]) := (show C (k + 1) 96 [AV.d (D.int IntKind.i64 a0)] = evFnK P hs (C k) 96 k Try.f96 [AV.d (D.int IntKind.i64 a0)] by kernel_rfl).trans (F96.eq k (C k) a0)
theorem F97.eq (k : Nat) (call : CallF) (a0 : Int) : evFnK P hs call (97 : FuncId) k Try.f97 [AV.d (D.int IntKind.i64 a0)] = bindR (call 95 [AV.d (D.int IntKind.i64 a0), AV.d (D.int IntKind.i64 (-40 : Int)), AV.d (D.int IntKind.i64 (9 : Int))]) fun r3 => bindB (resB 1 false 1 r3 0 0) fun b4 => some ([(false, [RL.d (D.bool b4)])]) := by kernel_rfl
theorem F97.run (k : Nat) (a0 : Int) : C (k + 1) 97 [AV.d (D.int IntKind.i64 a0)] = bindR ((C k) 95 [AV.d (D.int IntKind.i64 a0), AV.d (D.int IntKind.i64 (-40 : Int)), AV.d (D.int IntKind.i64 (9 : Int))]) fun r3 => bindB (resB 1 false 1 r3 0 0) fun b4 => some ([(false, [RL.d (D.bool b4)])]) := (show C (k + 1) 97 [AV.d (D.int IntKind.i64 a0)] = evFnK P hs (C k) 97 k Try.f97 [AV.d (D.int IntKind.i64 a0)] by kernel_rfl).trans (F97.eq k (C k) a0)
noncomputable def F98.L3 (k : Nat) (call : CallF)  (n : Nat) (v0 : Int) (v1 : Ovi.Rows) (v2 : Int) (v3 : Int) : Option Res := loopFn P hs call 98 k Try.f98 [1, 1, 0, 1, 0] [] n [(3, AV.d (D.int IntKind.i64 v0)), (6, AV.d (D.list 1 v1)), (7, AV.d (D.int IntKind.i64 v2)), (8, AV.d (D.int IntKind.i64 v3))] []
theorem F98.L3.zero (k : Nat) (call : CallF)  (v0 : Int) (v1 : Ovi.Rows) (v2 : Int) (v3 : Int) : F98.L3 k call  0 v0 v1 v2 v3 = none := by kernel_rfl
theorem F98.L3.succ (k : Nat) (call : CallF)  (n : Nat) (v0 : Int) (v1 : Ovi.Rows) (v2 : Int) (v3 : Int) : F98.L3 k call  (n + 1) v0 v1 v2 v3 = ite' (decide (v3 < v2)) (ite' (inR v3 (List.length v1)) (bindI (cellI IntKind.i64 v1 v3.toNat 0) fun n8 => ite' (n8 != v0) (some ([(false, [RL.d (D.int IntKind.i64 n8)])])) (F98.L3 k call  (n) (v0) (v1) (v2) (IntKind.i64.wrap (v3 + (1 : Int))))) (none)) (some ([(false, [RL.d (D.int IntKind.i64 v0)])])) := by kernel_rfl
theorem F98.eq (k : Nat) (call : CallF) (a0 : Ovi.Rows) : evFnK P hs call (98 : FuncId) k Try.f98 [AV.d (D.list 1 a0)] = F98.L3 k call  (k) ((0 : Int)) (a0) ((↑(List.length a0) : Int)) ((0 : Int)) := by kernel_rfl
theorem F98.run (k : Nat) (a0 : Ovi.Rows) : C (k + 1) 98 [AV.d (D.list 1 a0)] = F98.L3 k (C k)  (k) ((0 : Int)) (a0) ((↑(List.length a0) : Int)) ((0 : Int)) := (show C (k + 1) 98 [AV.d (D.list 1 a0)] = evFnK P hs (C k) 98 k Try.f98 [AV.d (D.list 1 a0)] by kernel_rfl).trans (F98.eq k (C k) a0)
theorem F99.eq (k : Nat) (call : CallF) (a0_0 : Int) (a0_1 : Ovi.Rows) : evFnK P hs call (99 : FuncId) k Try.f99 [AV.agg [AV.d (D.int IntKind.i64 a0_0), AV.d (D.list 1 a0_1)]] = bindR (call 121 [AV.d (D.list 1 a0_1)]) fun r4 => bindL (resO 3 1 1 false 1 r4 0 0) fun l5 => some ([(true, [RL.d (D.int IntKind.i64 a0_0), RL.row 3 1 l5])]) := by kernel_rfl
theorem F99.run (k : Nat) (a0_0 : Int) (a0_1 : Ovi.Rows) : C (k + 1) 99 [AV.agg [AV.d (D.int IntKind.i64 a0_0), AV.d (D.list 1 a0_1)]] = bindR ((C k) 121 [AV.d (D.list 1 a0_1)]) fun r4 => bindL (resO 3 1 1 false 1 r4 0 0) fun l5 => some ([(true, [RL.d (D.int IntKind.i64 a0_0), RL.row 3 1 l5])]) := (show C (k + 1) 99 [AV.agg [AV.d (D.int IntKind.i64 a0_0), AV.d (D.list 1 a0_1)]] = evFnK P hs (C k) 99 k Try.f99 [AV.agg [AV.d (D.int IntKind.i64 a0_0), AV.d (D.list 1 a0_1)]] by kernel_rfl).trans (F99.eq k (C k) a0_0 a0_1)
theorem F100.eq (k : Nat) (call : CallF) (a0 : Int) : evFnK P hs call (100 : FuncId) k Try.f100 [AV.d (D.int IntKind.i64 a0)] = bindR (call 95 [AV.d (D.int IntKind.i64 (IntKind.i64.wrap ((-1 : Int) - a0))), AV.d (D.int IntKind.i64 (0 : Int)), AV.d (D.int IntKind.i64 (39 : Int))]) fun r3 => bindB (resB 1 false 1 r3 0 0) fun b4 => ite' (!b4) (some ([(false, [RL.d (D.int IntKind.i64 (0 : Int))]), (false, [RL.d (D.bool false)])])) (some ([(false, [RL.d (D.int IntKind.i64 (IntKind.i64.wrap ((-1 : Int) - a0)))]), (false, [RL.d (D.bool true)])])) := by kernel_rfl
theorem F100.run (k : Nat) (a0 : Int) : C (k + 1) 100 [AV.d (D.int IntKind.i64 a0)] = bindR ((C k) 95 [AV.d (D.int IntKind.i64 (IntKind.i64.wrap ((-1 : Int) - a0))), AV.d (D.int IntKind.i64 (0 : Int)), AV.d (D.int IntKind.i64 (39 : Int))]) fun r3 => bindB (resB 1 false 1 r3 0 0) fun b4 => ite' (!b4) (some ([(false, [RL.d (D.int IntKind.i64 (0 : Int))]), (false, [RL.d (D.bool false)])])) (some ([(false, [RL.d (D.int IntKind.i64 (IntKind.i64.wrap ((-1 : Int) - a0)))]), (false, [RL.d (D.bool true)])])) := (show C (k + 1) 100 [AV.d (D.int IntKind.i64 a0)] = evFnK P hs (C k) 100 k Try.f100 [AV.d (D.int IntKind.i64 a0)] by kernel_rfl).trans (F100.eq k (C k) a0)
theorem F120.eq (k : Nat) (call : CallF) (a0 : Int) : evFnK P hs call (120 : FuncId) k Try.f120 [AV.d (D.int IntKind.i64 a0)] = some ([(false, [RL.d (D.bool (a0 != a0))])]) := by kernel_rfl
theorem F120.run (k : Nat) (a0 : Int) : C (k + 1) 120 [AV.d (D.int IntKind.i64 a0)] = some ([(false, [RL.d (D.bool (a0 != a0))])]) := (show C (k + 1) 120 [AV.d (D.int IntKind.i64 a0)] = evFnK P hs (C k) 120 k Try.f120 [AV.d (D.int IntKind.i64 a0)] by kernel_rfl).trans (F120.eq k (C k) a0)

end Go.Proofs.Ythicohakeljdcaa.Q

/-! PGa -/
namespace Ovi
open Go
theorem resF_s (e sz d : Nat) (l : Rows) : resF e sz d 1 false 1 [(false, [.frow e sz d l])] 0 0 = some l := by simp [resF, leafD]
end Ovi
namespace Go.Proofs.Ythicohakeljdcaa.Q
open Go Ovi
/-- laws.toIntS -/
theorem l9 {k : Nat} (hk : 2000000 ≤ k) {a : Ovi.Rows} (ha : Fit (.list [.int .i64]) (.list 1 a)) (hs : szR a ≤ 1048576) : ∀ (m i n : Nat) (v : Ovi.Rows), Filled a v i 1 → i + m = a.length → m < n → F9.L3 k (C k) n a (i : Int) v = some [(false, [.row 3 1 a])] := by
  have hlen := ha.len
  intro m; induction m with
  | zero =>
    intro i n v hv hm hn
    obtain ⟨n, rfl⟩ : ∃ j, n = j + 1 := ⟨n - 1, by omega⟩
    obtain rfl : i = a.length := by omega
    rw [F9.L3.succ, ite'_f (lt_f (by omega)), hv.done]
  | succ m ih =>
    intro i n v hv hm hn
    obtain ⟨n, rfl⟩ : ∃ j, n = j + 1 := ⟨n - 1, by omega⟩
    obtain ⟨row, hr, hfr, hdr⟩ := ha.row (i := i) (by omega)
    obtain ⟨d0, rr0, rfl, hd0, hfr0⟩ := Fits.cons hfr
    obtain ⟨x0, rfl, wx0⟩ := hd0.int
    obtain rfl := Fits.nil hfr0
    have hst := hv.step hr rfl
    have hvl := hv.1
    have hszr := szR_at hr
    rw [F9.L3.succ, ite'_t (lt_t (by omega)), ite'_t (inR_t (by omega))]
    simp only [Int.toNat_natCast, cellI_at hr, cellB_at hr, cellS_at hr, cellL_at hr]
    simp only [List.getElem?_cons_zero, List.getElem?_cons_succ, Option.bind_some, asI_s, asB_s, asS_s, asL_s, bindI_s, bindB_s, bindS_s, bindL_s, bindR_s, resI_s, resB_s, resS_s, resO_s, resF_s, bne_self_eq_false, beq_self_eq_true, Bool.not_true]
    rw [ite'_t (inR_t (by omega)), wrap_succ (m := a.length) (by omega) (by omega) hlen]
    rw [show ((i : Int) + 1) = ((i + 1 : Nat) : Int) by omega]
    exact ih (i + 1) n _ hst (by omega) (by omega)
theorem c9 {k : Nat} (hk : 2000001 ≤ k) {a : Ovi.Rows} (ha : Fit (.list [.int .i64]) (.list 1 a)) (hs : szD (.list 1 a) ≤ 1048576) : C k 9 [.d (.list 1 a)] = some [(false, [.row 3 1 a])] := by
  obtain ⟨k, rfl⟩ : ∃ j, k = j + 1 := ⟨k - 1, by omega⟩
  simp only [szD] at hs
  rw [F9.run, ite'_t (beq_t _), ite'_t (inM_t (by omega))]
  exact l9 (k := k) (by omega) ha (by omega) a.length 0 k _ (Filled.start a _) (by omega) (by omega)
/-- laws.eqIntS -/
theorem l12 {k : Nat} (hk : 2000000 ≤ k) {a : Ovi.Rows} (ha : Fit (.list [.int .i64]) (.list 1 a)) (hs : szR a ≤ 1048576) : ∀ (m i n : Nat), i + m = a.length → m < n → F12.L4 k (C k) n a a (i : Int) = some [(false, [.d (.bool true)])] := by
  have hlen := ha.len
  intro m; induction m with
  | zero =>
    intro i n hm hn
    obtain ⟨n, rfl⟩ : ∃ j, n = j + 1 := ⟨n - 1, by omega⟩
    rw [F12.L4.succ, ite'_f (lt_f (by omega))]
  | succ m ih =>
    intro i n hm hn
    obtain ⟨n, rfl⟩ : ∃ j, n = j + 1 := ⟨n - 1, by omega⟩
    obtain ⟨row, hr, hfr, hdr⟩ := ha.row (i := i) (by omega)
    obtain ⟨d0, rr0, rfl, hd0, hfr0⟩ := Fits.cons hfr
    obtain ⟨x0, rfl, wx0⟩ := hd0.int
    obtain rfl := Fits.nil hfr0
    have hszr := szR_at hr
    rw [F12.L4.succ, ite'_t (lt_t (by omega)), ite'_t (inR_t (by omega))]
    simp only [Int.toNat_natCast, cellI_at hr, cellB_at hr, cellS_at hr, cellL_at hr]
    simp only [List.getElem?_cons_zero, List.getElem?_cons_succ, Option.bind_some, asI_s, asB_s, asS_s, asL_s, bindI_s, bindB_s, bindS_s, bindL_s, bindR_s, resI_s, resB_s, resS_s, resO_s, resF_s, bne_self_eq_false, beq_self_eq_true, Bool.not_true]
    rw [ite'_t (inR_t (by omega))]
    rw [ite'_f rfl, wrap_succ (m := a.length) (by omega) (by omega) hlen]
    rw [show ((i : Int) + 1) = ((i + 1 : Nat) : Int) by omega]
    exact ih (i + 1) n (by omega) (by omega)
theorem c12 {k : Nat} (hk : 2000001 ≤ k) {a : Ovi.Rows} (ha : Fit (.list [.int .i64]) (.list 1 a)) (hs : szD (.list 1 a) ≤ 1048576) : C k 12 [.d (.list 1 a), .d (.list 1 a)] = some [(false, [.d (.bool true)])] := by
  obtain ⟨k, rfl⟩ : ∃ j, k = j + 1 := ⟨k - 1, by omega⟩
  simp only [szD] at hs
  rw [F12.run, ite'_f (bne_f _)]
  exact l12 (k := k) (by omega) ha (by omega) a.length 0 k (by omega) (by omega)
/-- laws.szRelation -/
theorem c61 {k : Nat} (hk : 2000001 ≤ k) {a0 : List UInt8} (ha0 : a0.length ≤ maxLen) {a1 : Int} {a2 : Bool} {left : Int} (h0 : 0 ≤ left) (h1 : left ≤ 1048576) : C k 61 [.agg [.d (.str a0), .d (.int .i64 a1), .d (.bool a2)], .d (.int .i64 left)] = some [(false, [.d (.int .i64 (szT left (szC [.str a0, .int .i64 a1, .bool a2])))])] := by
  obtain ⟨k, rfl⟩ : ∃ j, k = j + 1 := ⟨k - 1, by omega⟩
  have eT : szC [.str a0, .int .i64 a1, .bool a2] = ((a0.length : Nat)) := by simp only [szC, szD] <;> omega
  rw [eT, F61.run]
  unfold maxLen at ha0
  rw [wrap_id (n := left - (a0.length : Int)) (by omega) (by omega)]
  rcases szT_cases (left) ((a0.length : Nat)) with ⟨q0, e0⟩ | ⟨q0, e0⟩
  rotate_left
  · rw [ite'_t (by simp only [decide_eq_true_eq]; omega)] <;> first | rfl | rw [szT_neg (by omega)]
  rw [ite'_f (neg_f (by omega))] <;> first | rfl | (rw [szT_pos (by omega)] <;> (congr 6 <;> omega))
/-- laws.toRelation -/
theorem F68x0 {a0 : List UInt8} {a1 : Int} {a2 : Bool} : resS 1 true 3 [(true, [.d (.str a0), .d (.int .i64 a1), .d (.bool a2)])] 0 0 = some a0 := rfl
theorem F68x1 {a0 : List UInt8} {a1 : Int} {a2 : Bool} : resI .i64 1 true 3 [(true, [.d (.str a0), .d (.int .i64 a1), .d (.bool a2)])] 0 1 = some a1 := rfl
theorem F68x2 {a0 : List UInt8} {a1 : Int} {a2 : Bool} : resB 1 true 3 [(true, [.d (.str a0), .d (.int .i64 a1), .d (.bool a2)])] 0 2 = some a2 := rfl
theorem c68 {k : Nat} (hk : 2000001 ≤ k) {a0 : List UInt8} (ha0 : a0.length ≤ maxLen) {a1 : Int} {a2 : Bool}  : C k 68 [.agg [.d (.str a0), .d (.int .i64 a1), .d (.bool a2)]] = some [(true, [.d (.str a0), .d (.int .i64 a1), .d (.bool a2)])] := by
  obtain ⟨k, rfl⟩ : ∃ j, k = j + 1 := ⟨k - 1, by omega⟩
  rw [F68.run]
/-- laws.eqRelation -/
theorem c77 {k : Nat} (hk : 2000001 ≤ k) {a0 : List UInt8} (ha0 : a0.length ≤ maxLen) {a1 : Int} {a2 : Bool}  : C k 77 [.agg [.d (.str a0), .d (.int .i64 a1), .d (.bool a2)], .agg [.d (.str a0), .d (.int .i64 a1), .d (.bool a2)]] = some [(false, [.d (.bool true)])] := by
  obtain ⟨k, rfl⟩ : ∃ j, k = j + 1 := ⟨k - 1, by omega⟩
  rw [F77.run]
  simp only [List.getElem?_cons_zero, List.getElem?_cons_succ, Option.bind_some, asI_s, asB_s, asS_s, asL_s, bindI_s, bindB_s, bindS_s, bindL_s, bindR_s, resI_s, resB_s, resS_s, resO_s, resF_s, bne_self_eq_false, beq_self_eq_true, Bool.not_true]
  rfl
/-- laws.szIntS -/
theorem c89 {k : Nat} (hk : 2000001 ≤ k) {a : Ovi.Rows} (ha : Fit (.list [.int .i64]) (.list 1 a)) {left : Int} (h0 : 0 ≤ left) (h1 : left ≤ 1048576) : C k 89 [.d (.list 1 a), .d (.int .i64 left)] = some [(false, [.d (.int .i64 (szT left (szD (.list 1 a))))])] := by
  obtain ⟨k, rfl⟩ : ∃ j, k = j + 1 := ⟨k - 1, by omega⟩
  have hlen := ha.len; unfold maxLen at hlen
  have hz : szR a = 0 := by
    clear hlen h0 h1
    induction a with
    | nil => rfl
    | cons r rs ih =>
      simp only [Fit, List.length_cons, List.mem_cons, forall_eq_or_imp] at ha
      obtain ⟨q1, q2, hfr, q4⟩ := ha
      obtain ⟨d0, rr0, rfl, hd0, hfr0⟩ := Fits.cons hfr
      obtain ⟨x0, rfl, wx0⟩ := hd0.int
      obtain rfl := Fits.nil hfr0
      simp only [szR, szC, szD]
      rw [ih (by simp only [Fit]; exact ⟨q1, by omega, q4⟩)]
  rw [F89.run, wrap_id (by omega) (by omega)]
  simp only [szD, hz, Nat.add_zero]
  rcases szT_cases left a.length with ⟨q, e⟩ | ⟨q, e⟩ <;> rw [e]
  · rw [ite'_f (neg_f (by omega))]
  · rw [ite'_t (by simp only [decide_eq_true_eq]; omega)]
/-- laws.szRelationS -/
theorem l26 {k : Nat} (hk : 2000001 ≤ k) {a : Ovi.Rows} (ha : Fit (.list [.str, .int .i64, .bool]) (.list 3 a)) : ∀ (m i n : Nat) (left : Int), 0 ≤ left → left ≤ 1048576 → i + m = a.length → m < n → F26.L5 k (C k) n a left (i : Int) = some [(false, [.d (.int .i64 (szT left (szR (a.drop i))))])] := by
  have hlen := ha.len
  intro m; induction m with
  | zero =>
    intro i n left h0 h1 hm hn
    obtain ⟨n, rfl⟩ : ∃ j, n = j + 1 := ⟨n - 1, by omega⟩
    rw [F26.L5.succ, ite'_f (lt_f (by omega)), List.drop_eq_nil_of_le (by omega)]
    simp only [szR, szT_pos (left := left) (s := 0) (by omega)]
    simp
  | succ m ih =>
    intro i n left h0 h1 hm hn
    obtain ⟨n, rfl⟩ : ∃ j, n = j + 1 := ⟨n - 1, by omega⟩
    obtain ⟨row, hr, hfr, hdr⟩ := ha.row (i := i) (by omega)
    obtain ⟨d0, rr0, rfl, hd0, hfr0⟩ := Fits.cons hfr
    obtain ⟨x0, rfl, hx0⟩ := hd0.str
    obtain ⟨d1, rr1, rfl, hd1, hfr1⟩ := Fits.cons hfr0
    obtain ⟨x1, rfl, wx1⟩ := hd1.int
    obtain ⟨d2, rr2, rfl, hd2, hfr2⟩ := Fits.cons hfr1
    obtain ⟨x2, rfl⟩ := hd2.bool
    obtain rfl := Fits.nil hfr2
    have eR : szR (a.drop i) = szC [.str x0, .int .i64 x1, .bool x2] + szR (a.drop (i + 1)) := by rw [hdr]; rfl
    rw [F26.L5.succ, ite'_t (lt_t (by omega)), ite'_t (inR_t (by omega)), eR]
    simp only [Int.toNat_natCast, cellI_at hr, cellB_at hr, cellS_at hr, cellL_at hr]
    simp only [List.getElem?_cons_zero, List.getElem?_cons_succ, Option.bind_some, asI_s, asB_s, asS_s, asL_s, bindI_s, bindB_s, bindS_s, bindL_s, bindR_s, resI_s, resB_s, resS_s, resO_s, resF_s, bne_self_eq_false, beq_self_eq_true, Bool.not_true]
    have cc := c61 (k := k) (by omega) (a1 := x1) (a2 := x2) hx0 h0 h1
    rw [cc]
    simp only [List.getElem?_cons_zero, List.getElem?_cons_succ, Option.bind_some, asI_s, asB_s, asS_s, asL_s, bindI_s, bindB_s, bindS_s, bindL_s, bindR_s, resI_s, resB_s, resS_s, resO_s, resF_s, bne_self_eq_false, beq_self_eq_true, Bool.not_true]
    rcases szT_cases left (szC [.str x0, .int .i64 x1, .bool x2]) with ⟨q, e⟩ | ⟨q, e⟩ <;> rw [e]
    · rw [ite'_f (neg_f (by omega)), wrap_succ (m := a.length) (by omega) (by omega) hlen]
      have := ih (i + 1) n (left - ((szC [.str x0, .int .i64 x1, .bool x2] : Nat) : Int)) (by omega) (by omega) (by omega) (by omega)
      rw [show ((i : Int) + 1) = ((i + 1 : Nat) : Int) by omega, this]
      rcases szT_cases (left - ((szC [.str x0, .int .i64 x1, .bool x2] : Nat) : Int)) (szR (a.drop (i + 1))) with ⟨q2, e2⟩ | ⟨q2, e2⟩ <;> rw [e2]
      · rw [szT_pos (by omega)] <;> (congr 6 <;> omega)
      · rw [szT_neg (by omega)]
    · rw [ite'_t neg_t, szT_neg (by omega)]
theorem c26 {k : Nat} (hk : 2000002 ≤ k) {a : Ovi.Rows} (ha : Fit (.list [.str, .int .i64, .bool]) (.list 3 a)) {left : Int} (h0 : 0 ≤ left) (h1 : left ≤ 1048576) : C k 26 [.d (.list 3 a), .d (.int .i64 left)] = some [(false, [.d (.int .i64 (szT left (szD (.list 3 a))))])] := by
  obtain ⟨k, rfl⟩ : ∃ j, k = j + 1 := ⟨k - 1, by omega⟩
  have hlen := ha.len; unfold maxLen at hlen
  rw [F26.run, wrap_id (by omega) (by omega)]
  have eD : szD (.list 3 a) = a.length + szR a := by simp only [szD]
  rw [eD]
  rcases szT_cases left a.length with ⟨q, e⟩ | ⟨q, e⟩
  · rw [ite'_f (neg_f (by omega))]
    have := l26 (k := k) (by omega) ha a.length 0 k (left - (a.length : Int)) (by omega) (by omega) (by omega) (by omega)
    rw [List.drop_zero] at this
    rw [show ((0 : Int)) = ((0 : Nat) : Int) by rfl, this]
    rcases szT_cases (left - (a.length : Int)) (szR a) with ⟨q2, e2⟩ | ⟨q2, e2⟩ <;> rw [e2]
    · rw [szT_pos (by omega)] <;> (congr 6 <;> omega)
    · rw [szT_neg (by omega)]
  · rw [ite'_t (by simp only [decide_eq_true_eq]; omega), szT_neg (by omega)]
/-- laws.toRelationS -/
theorem l32 {k : Nat} (hk : 2000001 ≤ k) {a : Ovi.Rows} (ha : Fit (.list [.str, .int .i64, .bool]) (.list 3 a)) (hs : szR a ≤ 1048576) : ∀ (m i n : Nat) (v : Ovi.Rows), Filled a v i 3 → i + m = a.length → m < n → F32.L3 k (C k) n a (i : Int) v = some [(false, [.row 86 3 a])] := by
  have hlen := ha.len
  intro m; induction m with
  | zero =>
    intro i n v hv hm hn
    obtain ⟨n, rfl⟩ : ∃ j, n = j + 1 := ⟨n - 1, by omega⟩
    obtain rfl : i = a.length := by omega
    rw [F32.L3.succ, ite'_f (lt_f (by omega)), hv.done]
  | succ m ih =>
    intro i n v hv hm hn
    obtain ⟨n, rfl⟩ : ∃ j, n = j + 1 := ⟨n - 1, by omega⟩
    obtain ⟨row, hr, hfr, hdr⟩ := ha.row (i := i) (by omega)
    obtain ⟨d0, rr0, rfl, hd0, hfr0⟩ := Fits.cons hfr
    obtain ⟨x0, rfl, hx0⟩ := hd0.str
    obtain ⟨d1, rr1, rfl, hd1, hfr1⟩ := Fits.cons hfr0
    obtain ⟨x1, rfl, wx1⟩ := hd1.int
    obtain ⟨d2, rr2, rfl, hd2, hfr2⟩ := Fits.cons hfr1
    obtain ⟨x2, rfl⟩ := hd2.bool
    obtain rfl := Fits.nil hfr2
    have hst := hv.step hr rfl
    have hvl := hv.1
    have hszr := szR_at hr
    rw [F32.L3.succ, ite'_t (lt_t (by omega)), ite'_t (inR_t (by omega))]
    simp only [Int.toNat_natCast, cellI_at hr, cellB_at hr, cellS_at hr, cellL_at hr]
    simp only [List.getElem?_cons_zero, List.getElem?_cons_succ, Option.bind_some, asI_s, asB_s, asS_s, asL_s, bindI_s, bindB_s, bindS_s, bindL_s, bindR_s, resI_s, resB_s, resS_s, resO_s, resF_s, bne_self_eq_false, beq_self_eq_true, Bool.not_true]
    rw [c68 (k := k) (by omega) (a1 := x1) (a2 := x2) hx0 ]
    simp only [List.getElem?_cons_zero, List.getElem?_cons_succ, Option.bind_some, asI_s, asB_s, asS_s, asL_s, bindI_s, bindB_s, bindS_s, bindL_s, bindR_s, resI_s, resB_s, resS_s, resO_s, resF_s, bne_self_eq_false, beq_self_eq_true, Bool.not_true]
    simp only [F68x0, F68x1, F68x2]
    simp only [List.getElem?_cons_zero, List.getElem?_cons_succ, Option.bind_some, asI_s, asB_s, asS_s, asL_s, bindI_s, bindB_s, bindS_s, bindL_s, bindR_s, resI_s, resB_s, resS_s, resO_s, resF_s, bne_self_eq_false, beq_self_eq_true, Bool.not_true]
    rw [ite'_t (inR_t (by omega)), wrap_succ (m := a.length) (by omega) (by omega) hlen]
    rw [show ((i : Int) + 1) = ((i + 1 : Nat) : Int) by omega]
    exact ih (i + 1) n _ hst (by omega) (by omega)
theorem c32 {k : Nat} (hk : 2000002 ≤ k) {a : Ovi.Rows} (ha : Fit (.list [.str, .int .i64, .bool]) (.list 3 a)) (hs : szD (.list 3 a) ≤ 1048576) : C k 32 [.d (.list 3 a)] = some [(false, [.row 86 3 a])] := by
  obtain ⟨k, rfl⟩ : ∃ j, k = j + 1 := ⟨k - 1, by omega⟩
  simp only [szD] at hs
  rw [F32.run, ite'_t (beq_t _), ite'_t (inM_t (by omega))]
  exact l32 (k := k) (by omega) ha (by omega) a.length 0 k _ (Filled.start a _) (by omega) (by omega)
/-- laws.eqRelationS -/
theorem l39 {k : Nat} (hk : 2000001 ≤ k) {a : Ovi.Rows} (ha : Fit (.list [.str, .int .i64, .bool]) (.list 3 a)) (hs : szR a ≤ 1048576) : ∀ (m i n : Nat), i + m = a.length → m < n → F39.L4 k (C k) n a a (i : Int) = some [(false, [.d (.bool true)])] := by
  have hlen := ha.len
  intro m; induction m with
  | zero =>
    intro i n hm hn
    obtain ⟨n, rfl⟩ : ∃ j, n = j + 1 := ⟨n - 1, by omega⟩
    rw [F39.L4.succ, ite'_f (lt_f (by omega))]
  | succ m ih =>
    intro i n hm hn
    obtain ⟨n, rfl⟩ : ∃ j, n = j + 1 := ⟨n - 1, by omega⟩
    obtain ⟨row, hr, hfr, hdr⟩ := ha.row (i := i) (by omega)
    obtain ⟨d0, rr0, rfl, hd0, hfr0⟩ := Fits.cons hfr
    obtain ⟨x0, rfl, hx0⟩ := hd0.str
    obtain ⟨d1, rr1, rfl, hd1, hfr1⟩ := Fits.cons hfr0
    obtain ⟨x1, rfl, wx1⟩ := hd1.int
    obtain ⟨d2, rr2, rfl, hd2, hfr2⟩ := Fits.cons hfr1
    obtain ⟨x2, rfl⟩ := hd2.bool
    obtain rfl := Fits.nil hfr2
    have hszr := szR_at hr
    rw [F39.L4.succ, ite'_t (lt_t (by omega)), ite'_t (inR_t (by omega))]
    simp only [Int.toNat_natCast, cellI_at hr, cellB_at hr, cellS_at hr, cellL_at hr]
    simp only [List.getElem?_cons_zero, List.getElem?_cons_succ, Option.bind_some, asI_s, asB_s, asS_s, asL_s, bindI_s, bindB_s, bindS_s, bindL_s, bindR_s, resI_s, resB_s, resS_s, resO_s, resF_s, bne_self_eq_false, beq_self_eq_true, Bool.not_true]
    rw [ite'_t (inR_t (by omega))]
    rw [c77 (k := k) (by omega) (a1 := x1) (a2 := x2) hx0 ]
    simp only [List.getElem?_cons_zero, List.getElem?_cons_succ, Option.bind_some, asI_s, asB_s, asS_s, asL_s, bindI_s, bindB_s, bindS_s, bindL_s, bindR_s, resI_s, resB_s, resS_s, resO_s, resF_s, bne_self_eq_false, beq_self_eq_true, Bool.not_true]
    rw [ite'_f rfl, wrap_succ (m := a.length) (by omega) (by omega) hlen]
    rw [show ((i : Int) + 1) = ((i + 1 : Nat) : Int) by omega]
    exact ih (i + 1) n (by omega) (by omega)
theorem c39 {k : Nat} (hk : 2000002 ≤ k) {a : Ovi.Rows} (ha : Fit (.list [.str, .int .i64, .bool]) (.list 3 a)) (hs : szD (.list 3 a) ≤ 1048576) : C k 39 [.d (.list 3 a), .d (.list 3 a)] = some [(false, [.d (.bool true)])] := by
  obtain ⟨k, rfl⟩ : ∃ j, k = j + 1 := ⟨k - 1, by omega⟩
  simp only [szD] at hs
  rw [F39.run, ite'_f (bne_f _)]
  exact l39 (k := k) (by omega) ha (by omega) a.length 0 k (by omega) (by omega)
/-- laws.szFact -/
theorem c62 {k : Nat} (hk : 2000002 ≤ k) {a0 : Int} {a1 : Ovi.Rows} (ha1 : Fit (.list [.int .i64]) (.list 1 a1)) {left : Int} (h0 : 0 ≤ left) (h1 : left ≤ 1048576) : C k 62 [.agg [.d (.int .i64 a0), .d (.list 1 a1)], .d (.int .i64 left)] = some [(false, [.d (.int .i64 (szT left (szC [.int .i64 a0, .list 1 a1])))])] := by
  obtain ⟨k, rfl⟩ : ∃ j, k = j + 1 := ⟨k - 1, by omega⟩
  have eT : szC [.int .i64 a0, .list 1 a1] = (szD (.list 1 a1)) := by simp only [szC, szD] <;> omega
  rw [eT, F62.run]
  rw [c89 (k := k) (by omega)  ha1 (left := left) (by omega) (by omega)]
  simp only [List.getElem?_cons_zero, List.getElem?_cons_succ, Option.bind_some, asI_s, asB_s, asS_s, asL_s, bindI_s, bindB_s, bindS_s, bindL_s, bindR_s, resI_s, resB_s, resS_s, resO_s, resF_s, bne_self_eq_false, beq_self_eq_true, Bool.not_true]
  rcases szT_cases (left) (szD (.list 1 a1)) with ⟨q0, e0⟩ | ⟨q0, e0⟩ <;> rw [e0]
  rotate_left
  · rw [ite'_t (by simp only [decide_eq_true_eq]; omega)] <;> first | rfl | rw [szT_neg (by omega)]
  rw [ite'_f (neg_f (by omega))] <;> first | rfl | (rw [szT_pos (by omega)] <;> (congr 6 <;> omega))
/-- laws.toFact -/
theorem F69x0 {a0 : Int} {a1 : Ovi.Rows} : resI .i64 1 true 2 [(true, [.d (.int .i64 a0), .row 3 1 a1])] 0 0 = some a0 := rfl
theorem F69x1 {a0 : Int} {a1 : Ovi.Rows} : resO 3 1 1 true 2 [(true, [.d (.int .i64 a0), .row 3 1 a1])] 0 1 = some a1 := rfl
theorem c69 {k : Nat} (hk : 2000002 ≤ k) {a0 : Int} {a1 : Ovi.Rows} (ha1 : Fit (.list [.int .i64]) (.list 1 a1)) (s1 : szD (.list 1 a1) ≤ 1048576) : C k 69 [.agg [.d (.int .i64 a0), .d (.list 1 a1)]] = some [(true, [.d (.int .i64 a0), .row 3 1 a1])] := by
  obtain ⟨k, rfl⟩ : ∃ j, k = j + 1 := ⟨k - 1, by omega⟩
  rw [F69.run]
  rw [c9 (k := k) (by omega)  ha1 s1]
  simp only [List.getElem?_cons_zero, List.getElem?_cons_succ, Option.bind_some, asI_s, asB_s, asS_s, asL_s, bindI_s, bindB_s, bindS_s, bindL_s, bindR_s, resI_s, resB_s, resS_s, resO_s, resF_s, bne_self_eq_false, beq_self_eq_true, Bool.not_true]
/-- laws.eqFact -/
theorem c78 {k : Nat} (hk : 2000002 ≤ k) {a0 : Int} {a1 : Ovi.Rows} (ha1 : Fit (.list [.int .i64]) (.list 1 a1)) (s1 : szD (.list 1 a1) ≤ 1048576) : C k 78 [.agg [.d (.int .i64 a0), .d (.list 1 a1)], .agg [.d (.int .i64 a0), .d (.list 1 a1)]] = some [(false, [.d (.bool true)])] := by
  obtain ⟨k, rfl⟩ : ∃ j, k = j + 1 := ⟨k - 1, by omega⟩
  rw [F78.run]
  rw [c12 (k := k) (by omega)  ha1 s1]
  simp only [List.getElem?_cons_zero, List.getElem?_cons_succ, Option.bind_some, asI_s, asB_s, asS_s, asL_s, bindI_s, bindB_s, bindS_s, bindL_s, bindR_s, resI_s, resB_s, resS_s, resO_s, resF_s, bne_self_eq_false, beq_self_eq_true, Bool.not_true]
  rfl
/-- laws.eqSkolemTerm -/
theorem c81 {k : Nat} (hk : 2000002 ≤ k) {a0 : Int} {a1 : Int} {a2 : Ovi.Rows} (ha2 : Fit (.list [.int .i64]) (.list 1 a2)) (s2 : szD (.list 1 a2) ≤ 1048576) : C k 81 [.agg [.d (.int .i64 a0), .d (.int .i64 a1), .d (.list 1 a2)], .agg [.d (.int .i64 a0), .d (.int .i64 a1), .d (.list 1 a2)]] = some [(false, [.d (.bool true)])] := by
  obtain ⟨k, rfl⟩ : ∃ j, k = j + 1 := ⟨k - 1, by omega⟩
  rw [F81.run]
  rw [c12 (k := k) (by omega)  ha2 s2]
  simp only [List.getElem?_cons_zero, List.getElem?_cons_succ, Option.bind_some, asI_s, asB_s, asS_s, asL_s, bindI_s, bindB_s, bindS_s, bindL_s, bindR_s, resI_s, resB_s, resS_s, resO_s, resF_s, bne_self_eq_false, beq_self_eq_true, Bool.not_true]
  rfl
/-- laws.szFactS -/
theorem l27 {k : Nat} (hk : 2000002 ≤ k) {a : Ovi.Rows} (ha : Fit (.list [.int .i64, .list [.int .i64]]) (.list 2 a)) : ∀ (m i n : Nat) (left : Int), 0 ≤ left → left ≤ 1048576 → i + m = a.length → m < n → F27.L5 k (C k) n a left (i : Int) = some [(false, [.d (.int .i64 (szT left (szR (a.drop i))))])] := by
  have hlen := ha.len
  intro m; induction m with
  | zero =>
    intro i n left h0 h1 hm hn
    obtain ⟨n, rfl⟩ : ∃ j, n = j + 1 := ⟨n - 1, by omega⟩
    rw [F27.L5.succ, ite'_f (lt_f (by omega)), List.drop_eq_nil_of_le (by omega)]
    simp only [szR, szT_pos (left := left) (s := 0) (by omega)]
    simp
  | succ m ih =>
    intro i n left h0 h1 hm hn
    obtain ⟨n, rfl⟩ : ∃ j, n = j + 1 := ⟨n - 1, by omega⟩
    obtain ⟨row, hr, hfr, hdr⟩ := ha.row (i := i) (by omega)
    obtain ⟨d0, rr0, rfl, hd0, hfr0⟩ := Fits.cons hfr
    obtain ⟨x0, rfl, wx0⟩ := hd0.int
    obtain ⟨d1, rr1, rfl, hd1, hfr1⟩ := Fits.cons hfr0
    obtain ⟨x1, rfl, hx1⟩ := hd1.list (n := 1) rfl
    obtain rfl := Fits.nil hfr1
    have eR : szR (a.drop i) = szC [.int .i64 x0, .list 1 x1] + szR (a.drop (i + 1)) := by rw [hdr]; rfl
    rw [F27.L5.succ, ite'_t (lt_t (by omega)), ite'_t (inR_t (by omega)), eR]
    simp only [Int.toNat_natCast, cellI_at hr, cellB_at hr, cellS_at hr, cellL_at hr]
    simp only [List.getElem?_cons_zero, List.getElem?_cons_succ, Option.bind_some, asI_s, asB_s, asS_s, asL_s, bindI_s, bindB_s, bindS_s, bindL_s, bindR_s, resI_s, resB_s, resS_s, resO_s, resF_s, bne_self_eq_false, beq_self_eq_true, Bool.not_true]
    have cc := c62 (k := k) (by omega) (a0 := x0) hx1 h0 h1
    rw [cc]
    simp only [List.getElem?_cons_zero, List.getElem?_cons_succ, Option.bind_some, asI_s, asB_s, asS_s, asL_s, bindI_s, bindB_s, bindS_s, bindL_s, bindR_s, resI_s, resB_s, resS_s, resO_s, resF_s, bne_self_eq_false, beq_self_eq_true, Bool.not_true]
    rcases szT_cases left (szC [.int .i64 x0, .list 1 x1]) with ⟨q, e⟩ | ⟨q, e⟩ <;> rw [e]
    · rw [ite'_f (neg_f (by omega)), wrap_succ (m := a.length) (by omega) (by omega) hlen]
      have := ih (i + 1) n (left - ((szC [.int .i64 x0, .list 1 x1] : Nat) : Int)) (by omega) (by omega) (by omega) (by omega)
      rw [show ((i : Int) + 1) = ((i + 1 : Nat) : Int) by omega, this]
      rcases szT_cases (left - ((szC [.int .i64 x0, .list 1 x1] : Nat) : Int)) (szR (a.drop (i + 1))) with ⟨q2, e2⟩ | ⟨q2, e2⟩ <;> rw [e2]
      · rw [szT_pos (by omega)] <;> (congr 6 <;> omega)
      · rw [szT_neg (by omega)]
    · rw [ite'_t neg_t, szT_neg (by omega)]
theorem c27 {k : Nat} (hk : 2000003 ≤ k) {a : Ovi.Rows} (ha : Fit (.list [.int .i64, .list [.int .i64]]) (.list 2 a)) {left : Int} (h0 : 0 ≤ left) (h1 : left ≤ 1048576) : C k 27 [.d (.list 2 a), .d (.int .i64 left)] = some [(false, [.d (.int .i64 (szT left (szD (.list 2 a))))])] := by
  obtain ⟨k, rfl⟩ : ∃ j, k = j + 1 := ⟨k - 1, by omega⟩
  have hlen := ha.len; unfold maxLen at hlen
  rw [F27.run, wrap_id (by omega) (by omega)]
  have eD : szD (.list 2 a) = a.length + szR a := by simp only [szD]
  rw [eD]
  rcases szT_cases left a.length with ⟨q, e⟩ | ⟨q, e⟩
  · rw [ite'_f (neg_f (by omega))]
    have := l27 (k := k) (by omega) ha a.length 0 k (left - (a.length : Int)) (by omega) (by omega) (by omega) (by omega)
    rw [List.drop_zero] at this
    rw [show ((0 : Int)) = ((0 : Nat) : Int) by rfl, this]
    rcases szT_cases (left - (a.length : Int)) (szR a) with ⟨q2, e2⟩ | ⟨q2, e2⟩ <;> rw [e2]
    · rw [szT_pos (by omega)] <;> (congr 6 <;> omega)
    · rw [szT_neg (by omega)]
  · rw [ite'_t (by simp only [decide_eq_true_eq]; omega), szT_neg (by omega)]
/-- laws.toFactS -/
theorem l33 {k : Nat} (hk : 2000002 ≤ k) {a : Ovi.Rows} (ha : Fit (.list [.int .i64, .list [.int .i64]]) (.list 2 a)) (hs : szR a ≤ 1048576) : ∀ (m i n : Nat) (v : Ovi.Rows), Filled a v i 2 → i + m = a.length → m < n → F33.L3 k (C k) n a (i : Int) v = some [(false, [.frow 58 2 1 a])] := by
  have hlen := ha.len
  intro m; induction m with
  | zero =>
    intro i n v hv hm hn
    obtain ⟨n, rfl⟩ : ∃ j, n = j + 1 := ⟨n - 1, by omega⟩
    obtain rfl : i = a.length := by omega
    rw [F33.L3.succ, ite'_f (lt_f (by omega)), hv.done]
  | succ m ih =>
    intro i n v hv hm hn
    obtain ⟨n, rfl⟩ : ∃ j, n = j + 1 := ⟨n - 1, by omega⟩
    obtain ⟨row, hr, hfr, hdr⟩ := ha.row (i := i) (by omega)
    obtain ⟨d0, rr0, rfl, hd0, hfr0⟩ := Fits.cons hfr
    obtain ⟨x0, rfl, wx0⟩ := hd0.int
    obtain ⟨d1, rr1, rfl, hd1, hfr1⟩ := Fits.cons hfr0
    obtain ⟨x1, rfl, hx1⟩ := hd1.list (n := 1) rfl
    obtain rfl := Fits.nil hfr1
    have hst := hv.step hr rfl
    have hvl := hv.1
    have hszr := szR_at hr
    rw [F33.L3.succ, ite'_t (lt_t (by omega)), ite'_t (inR_t (by omega))]
    simp only [Int.toNat_natCast, cellI_at hr, cellB_at hr, cellS_at hr, cellL_at hr]
    simp only [List.getElem?_cons_zero, List.getElem?_cons_succ, Option.bind_some, asI_s, asB_s, asS_s, asL_s, bindI_s, bindB_s, bindS_s, bindL_s, bindR_s, resI_s, resB_s, resS_s, resO_s, resF_s, bne_self_eq_false, beq_self_eq_true, Bool.not_true]
    rw [c69 (k := k) (by omega) (a0 := x0) hx1 (by simp only [szC, szD] at hszr ⊢; omega)]
    simp only [List.getElem?_cons_zero, List.getElem?_cons_succ, Option.bind_some, asI_s, asB_s, asS_s, asL_s, bindI_s, bindB_s, bindS_s, bindL_s, bindR_s, resI_s, resB_s, resS_s, resO_s, resF_s, bne_self_eq_false, beq_self_eq_true, Bool.not_true]
    simp only [F69x0, F69x1]
    simp only [List.getElem?_cons_zero, List.getElem?_cons_succ, Option.bind_some, asI_s, asB_s, asS_s, asL_s, bindI_s, bindB_s, bindS_s, bindL_s, bindR_s, resI_s, resB_s, resS_s, resO_s, resF_s, bne_self_eq_false, beq_self_eq_true, Bool.not_true]
    rw [ite'_t (inR_t (by omega)), wrap_succ (m := a.length) (by omega) (by omega) hlen]
    rw [show ((i : Int) + 1) = ((i + 1 : Nat) : Int) by omega]
    exact ih (i + 1) n _ hst (by omega) (by omega)
theorem c33 {k : Nat} (hk : 2000003 ≤ k) {a : Ovi.Rows} (ha : Fit (.list [.int .i64, .list [.int .i64]]) (.list 2 a)) (hs : szD (.list 2 a) ≤ 1048576) : C k 33 [.d (.list 2 a)] = some [(false, [.frow 58 2 1 a])] := by
  obtain ⟨k, rfl⟩ : ∃ j, k = j + 1 := ⟨k - 1, by omega⟩
  simp only [szD] at hs
  rw [F33.run, ite'_t (beq_t _), ite'_t (inM_t (by omega))]
  exact l33 (k := k) (by omega) ha (by omega) a.length 0 k _ (Filled.start a _) (by omega) (by omega)
/-- laws.eqFactS -/
theorem l40 {k : Nat} (hk : 2000002 ≤ k) {a : Ovi.Rows} (ha : Fit (.list [.int .i64, .list [.int .i64]]) (.list 2 a)) (hs : szR a ≤ 1048576) : ∀ (m i n : Nat), i + m = a.length → m < n → F40.L4 k (C k) n a a (i : Int) = some [(false, [.d (.bool true)])] := by
  have hlen := ha.len
  intro m; induction m with
  | zero =>
    intro i n hm hn
    obtain ⟨n, rfl⟩ : ∃ j, n = j + 1 := ⟨n - 1, by omega⟩
    rw [F40.L4.succ, ite'_f (lt_f (by omega))]
  | succ m ih =>
    intro i n hm hn
    obtain ⟨n, rfl⟩ : ∃ j, n = j + 1 := ⟨n - 1, by omega⟩
    obtain ⟨row, hr, hfr, hdr⟩ := ha.row (i := i) (by omega)
    obtain ⟨d0, rr0, rfl, hd0, hfr0⟩ := Fits.cons hfr
    obtain ⟨x0, rfl, wx0⟩ := hd0.int
    obtain ⟨d1, rr1, rfl, hd1, hfr1⟩ := Fits.cons hfr0
    obtain ⟨x1, rfl, hx1⟩ := hd1.list (n := 1) rfl
    obtain rfl := Fits.nil hfr1
    have hszr := szR_at hr
    rw [F40.L4.succ, ite'_t (lt_t (by omega)), ite'_t (inR_t (by omega))]
    simp only [Int.toNat_natCast, cellI_at hr, cellB_at hr, cellS_at hr, cellL_at hr]
    simp only [List.getElem?_cons_zero, List.getElem?_cons_succ, Option.bind_some, asI_s, asB_s, asS_s, asL_s, bindI_s, bindB_s, bindS_s, bindL_s, bindR_s, resI_s, resB_s, resS_s, resO_s, resF_s, bne_self_eq_false, beq_self_eq_true, Bool.not_true]
    rw [ite'_t (inR_t (by omega))]
    rw [c78 (k := k) (by omega) (a0 := x0) hx1 (by simp only [szC, szD] at hszr ⊢; omega)]
    simp only [List.getElem?_cons_zero, List.getElem?_cons_succ, Option.bind_some, asI_s, asB_s, asS_s, asL_s, bindI_s, bindB_s, bindS_s, bindL_s, bindR_s, resI_s, resB_s, resS_s, resO_s, resF_s, bne_self_eq_false, beq_self_eq_true, Bool.not_true]
    rw [ite'_f rfl, wrap_succ (m := a.length) (by omega) (by omega) hlen]
    rw [show ((i : Int) + 1) = ((i + 1 : Nat) : Int) by omega]
    exact ih (i + 1) n (by omega) (by omega)
theorem c40 {k : Nat} (hk : 2000003 ≤ k) {a : Ovi.Rows} (ha : Fit (.list [.int .i64, .list [.int .i64]]) (.list 2 a)) (hs : szD (.list 2 a) ≤ 1048576) : C k 40 [.d (.list 2 a), .d (.list 2 a)] = some [(false, [.d (.bool true)])] := by
  obtain ⟨k, rfl⟩ : ∃ j, k = j + 1 := ⟨k - 1, by omega⟩
  simp only [szD] at hs
  rw [F40.run, ite'_f (bne_f _)]
  exact l40 (k := k) (by omega) ha (by omega) a.length 0 k (by omega) (by omega)
/-- laws.eqSkolemTermS -/
theorem l48 {k : Nat} (hk : 2000002 ≤ k) {a : Ovi.Rows} (ha : Fit (.list [.int .i64, .int .i64, .list [.int .i64]]) (.list 3 a)) (hs : szR a ≤ 1048576) : ∀ (m i n : Nat), i + m = a.length → m < n → F48.L4 k (C k) n a a (i : Int) = some [(false, [.d (.bool true)])] := by
  have hlen := ha.len
  intro m; induction m with
  | zero =>
    intro i n hm hn
    obtain ⟨n, rfl⟩ : ∃ j, n = j + 1 := ⟨n - 1, by omega⟩
    rw [F48.L4.succ, ite'_f (lt_f (by omega))]
  | succ m ih =>
    intro i n hm hn
    obtain ⟨n, rfl⟩ : ∃ j, n = j + 1 := ⟨n - 1, by omega⟩
    obtain ⟨row, hr, hfr, hdr⟩ := ha.row (i := i) (by omega)
    obtain ⟨d0, rr0, rfl, hd0, hfr0⟩ := Fits.cons hfr
    obtain ⟨x0, rfl, wx0⟩ := hd0.int
    obtain ⟨d1, rr1, rfl, hd1, hfr1⟩ := Fits.cons hfr0
    obtain ⟨x1, rfl, wx1⟩ := hd1.int
    obtain ⟨d2, rr2, rfl, hd2, hfr2⟩ := Fits.cons hfr1
    obtain ⟨x2, rfl, hx2⟩ := hd2.list (n := 1) rfl
    obtain rfl := Fits.nil hfr2
    have hszr := szR_at hr
    rw [F48.L4.succ, ite'_t (lt_t (by omega)), ite'_t (inR_t (by omega))]
    simp only [Int.toNat_natCast, cellI_at hr, cellB_at hr, cellS_at hr, cellL_at hr]
    simp only [List.getElem?_cons_zero, List.getElem?_cons_succ, Option.bind_some, asI_s, asB_s, asS_s, asL_s, bindI_s, bindB_s, bindS_s, bindL_s, bindR_s, resI_s, resB_s, resS_s, resO_s, resF_s, bne_self_eq_false, beq_self_eq_true, Bool.not_true]
    rw [ite'_t (inR_t (by omega))]
    rw [c81 (k := k) (by omega) (a0 := x0) (a1 := x1) hx2 (by simp only [szC, szD] at hszr ⊢; omega)]
    simp only [List.getElem?_cons_zero, List.getElem?_cons_succ, Option.bind_some, asI_s, asB_s, asS_s, asL_s, bindI_s, bindB_s, bindS_s, bindL_s, bindR_s, resI_s, resB_s, resS_s, resO_s, resF_s, bne_self_eq_false, beq_self_eq_true, Bool.not_true]
    rw [ite'_f rfl, wrap_succ (m := a.length) (by omega) (by omega) hlen]
    rw [show ((i : Int) + 1) = ((i + 1 : Nat) : Int) by omega]
    exact ih (i + 1) n (by omega) (by omega)
theorem c48 {k : Nat} (hk : 2000003 ≤ k) {a : Ovi.Rows} (ha : Fit (.list [.int .i64, .int .i64, .list [.int .i64]]) (.list 3 a)) (hs : szD (.list 3 a) ≤ 1048576) : C k 48 [.d (.list 3 a), .d (.list 3 a)] = some [(false, [.d (.bool true)])] := by
  obtain ⟨k, rfl⟩ : ∃ j, k = j + 1 := ⟨k - 1, by omega⟩
  simp only [szD] at hs
  rw [F48.run, ite'_f (bne_f _)]
  exact l48 (k := k) (by omega) ha (by omega) a.length 0 k (by omega) (by omega)
/-- laws.szInstance -/
theorem c6 {k : Nat} (hk : 2000004 ≤ k) {a0 : Ovi.Rows} (ha0 : Fit (.list [.str, .int .i64, .bool]) (.list 3 a0)) {a1 : Ovi.Rows} (ha1 : Fit (.list [.int .i64, .list [.int .i64]]) (.list 2 a1)) {left : Int} (h0 : 0 ≤ left) (h1 : left ≤ 1048576) : C k 6 [.agg [.d (.list 3 a0), .d (.list 2 a1)], .d (.int .i64 left)] = some [(false, [.d (.int .i64 (szT left (szC [.list 3 a0, .list 2 a1])))])] := by
  obtain ⟨k, rfl⟩ : ∃ j, k = j + 1 := ⟨k - 1, by omega⟩
  have eT : szC [.list 3 a0, .list 2 a1] = (szD (.list 3 a0)) + (szD (.list 2 a1)) := by simp only [szC, szD] <;> omega
  rw [eT, F6.run]
  rw [c26 (k := k) (by omega)  ha0 (left := left) (by omega) (by omega)]
  simp only [List.getElem?_cons_zero, List.getElem?_cons_succ, Option.bind_some, asI_s, asB_s, asS_s, asL_s, bindI_s, bindB_s, bindS_s, bindL_s, bindR_s, resI_s, resB_s, resS_s, resO_s, resF_s, bne_self_eq_false, beq_self_eq_true, Bool.not_true]
  rcases szT_cases (left) (szD (.list 3 a0)) with ⟨q0, e0⟩ | ⟨q0, e0⟩ <;> rw [e0]
  rotate_left
  · rw [ite'_t (by simp only [decide_eq_true_eq]; omega)] <;> first | rfl | rw [szT_neg (by omega)]
  rw [ite'_f (neg_f (by omega))]
  rw [c27 (k := k) (by omega)  ha1 (left := left - ((szD (.list 3 a0) : Nat) : Int)) (by omega) (by omega)]
  simp only [List.getElem?_cons_zero, List.getElem?_cons_succ, Option.bind_some, asI_s, asB_s, asS_s, asL_s, bindI_s, bindB_s, bindS_s, bindL_s, bindR_s, resI_s, resB_s, resS_s, resO_s, resF_s, bne_self_eq_false, beq_self_eq_true, Bool.not_true]
  rcases szT_cases (left - ((szD (.list 3 a0) : Nat) : Int)) (szD (.list 2 a1)) with ⟨q1, e1⟩ | ⟨q1, e1⟩ <;> rw [e1]
  rotate_left
  · rw [ite'_t (by simp only [decide_eq_true_eq]; omega)] <;> first | rfl | rw [szT_neg (by omega)]
  rw [ite'_f (neg_f (by omega))] <;> first | rfl | (rw [szT_pos (by omega)] <;> (congr 6 <;> omega))
/-- laws.toInstance -/
theorem F8x0 {a0 : Ovi.Rows} {a1 : Ovi.Rows} : resO 86 3 1 true 2 [(true, [.row 86 3 a0, .frow 58 2 1 a1])] 0 0 = some a0 := rfl
theorem F8x1 {a0 : Ovi.Rows} {a1 : Ovi.Rows} : resF 58 2 1 1 true 2 [(true, [.row 86 3 a0, .frow 58 2 1 a1])] 0 1 = some a1 := rfl
theorem c8 {k : Nat} (hk : 2000004 ≤ k) {a0 : Ovi.Rows} (ha0 : Fit (.list [.str, .int .i64, .bool]) (.list 3 a0)) {a1 : Ovi.Rows} (ha1 : Fit (.list [.int .i64, .list [.int .i64]]) (.list 2 a1)) (s0 : szD (.list 3 a0) ≤ 1048576) (s1 : szD (.list 2 a1) ≤ 1048576) : C k 8 [.agg [.d (.list 3 a0), .d (.list 2 a1)]] = some [(true, [.row 86 3 a0, .frow 58 2 1 a1])] := by
  obtain ⟨k, rfl⟩ : ∃ j, k = j + 1 := ⟨k - 1, by omega⟩
  rw [F8.run]
  rw [c32 (k := k) (by omega)  ha0 s0]
  simp only [List.getElem?_cons_zero, List.getElem?_cons_succ, Option.bind_some, asI_s, asB_s, asS_s, asL_s, bindI_s, bindB_s, bindS_s, bindL_s, bindR_s, resI_s, resB_s, resS_s, resO_s, resF_s, bne_self_eq_false, beq_self_eq_true, Bool.not_true]
  rw [c33 (k := k) (by omega)  ha1 s1]
  simp only [List.getElem?_cons_zero, List.getElem?_cons_succ, Option.bind_some, asI_s, asB_s, asS_s, asL_s, bindI_s, bindB_s, bindS_s, bindL_s, bindR_s, resI_s, resB_s, resS_s, resO_s, resF_s, bne_self_eq_false, beq_self_eq_true, Bool.not_true]
/-- laws.eqInstance -/
theorem c11 {k : Nat} (hk : 2000004 ≤ k) {a0 : Ovi.Rows} (ha0 : Fit (.list [.str, .int .i64, .bool]) (.list 3 a0)) {a1 : Ovi.Rows} (ha1 : Fit (.list [.int .i64, .list [.int .i64]]) (.list 2 a1)) (s0 : szD (.list 3 a0) ≤ 1048576) (s1 : szD (.list 2 a1) ≤ 1048576) : C k 11 [.agg [.d (.list 3 a0), .d (.list 2 a1)], .agg [.d (.list 3 a0), .d (.list 2 a1)]] = some [(false, [.d (.bool true)])] := by
  obtain ⟨k, rfl⟩ : ∃ j, k = j + 1 := ⟨k - 1, by omega⟩
  rw [F11.run]
  rw [c39 (k := k) (by omega)  ha0 s0]
  rw [c40 (k := k) (by omega)  ha1 s1]
  simp only [List.getElem?_cons_zero, List.getElem?_cons_succ, Option.bind_some, asI_s, asB_s, asS_s, asL_s, bindI_s, bindB_s, bindS_s, bindL_s, bindR_s, resI_s, resB_s, resS_s, resO_s, resF_s, bne_self_eq_false, beq_self_eq_true, Bool.not_true]
  rfl
/-- laws.eqSkolemState -/
theorem c18 {k : Nat} (hk : 2000005 ≤ k) {a0 : Ovi.Rows} (ha0 : Fit (.list [.str, .int .i64, .bool]) (.list 3 a0)) {a1 : Ovi.Rows} (ha1 : Fit (.list [.int .i64, .list [.int .i64]]) (.list 2 a1)) {a2 : Ovi.Rows} (ha2 : Fit (.list [.int .i64, .int .i64, .list [.int .i64]]) (.list 3 a2)) (s0 : szD (.list 3 a0) ≤ 1048576) (s1 : szD (.list 2 a1) ≤ 1048576) (s2 : szD (.list 3 a2) ≤ 1048576) : C k 18 [.agg [.d (.list 3 a0), .d (.list 2 a1), .d (.list 3 a2)], .agg [.d (.list 3 a0), .d (.list 2 a1), .d (.list 3 a2)]] = some [(false, [.d (.bool true)])] := by
  obtain ⟨k, rfl⟩ : ∃ j, k = j + 1 := ⟨k - 1, by omega⟩
  rw [F18.run]
  rw [c11 (k := k) (by omega)  ha0 ha1 s0 s1]
  rw [c48 (k := k) (by omega)  ha2 s2]
  simp only [List.getElem?_cons_zero, List.getElem?_cons_succ, Option.bind_some, asI_s, asB_s, asS_s, asL_s, bindI_s, bindB_s, bindS_s, bindL_s, bindR_s, resI_s, resB_s, resS_s, resO_s, resF_s, bne_self_eq_false, beq_self_eq_true, Bool.not_true]
  rfl
end Go.Proofs.Ythicohakeljdcaa.Q

/-! PHa -/
namespace Go.Proofs.Ythicohakeljdcaa.Q
open Go Ovi

def bo (b : Bool) : Option Res := some [(false, [.d (.bool b)])]
theorem bo_eq {b c : Bool} (h : b = c) : bo b = bo c := by rw [h]
/-- spec.l1In -/
theorem c90 (k : Nat) (a l h : Int) : C (k + 1) 90 [.d (.int .i64 a), .d (.int .i64 l), .d (.int .i64 h)] = bo (decide (l ≤ a ∧ a ≤ h)) := by
  rw [F90.run]
  by_cases h1 : l ≤ a
  · rw [ite'_t (by simpa using h1)]; exact bo_eq (by simp [h1])
  · rw [ite'_f (by simpa using h1)]; exact bo_eq (by simp [h1])
/-- impl.within -/
theorem c95 (k : Nat) (a l h : Int) : C (k + 1) 95 [.d (.int .i64 a), .d (.int .i64 l), .d (.int .i64 h)] = bo (decide (l ≤ a ∧ a ≤ h)) := by
  rw [F95.run]
  by_cases h1 : l ≤ a
  · rw [ite'_t (by simpa using h1)]; exact bo_eq (by simp [h1])
  · rw [ite'_f (by simpa using h1)]; exact bo_eq (by simp [h1])
theorem bB (b : Bool) (k : Bool → Option Res) : (bindR (bo b) fun r => bindB (resB 1 false 1 r 0 0) k) = k b := rfl
theorem iB {x y : Option Res} (b : Bool) : ite' b x y = cond b x y := rfl
variable {k : Nat}
/-- slices.ContainsFunc on integers -/
theorem c53 (zs : List Int) (f : FuncId) (caps : Ovi.Rows) (p : Int → Bool) (hk : zs.length < k) (hz : zs.length ≤ maxLen) (hp : ∀ z ∈ zs, C k f (.d (.int .i64 z) :: caps.map fun c => .cap c 0) = bo (p z)) : C (k + 2) 53 [.d (.list 1 (I1 zs)), .d (.fn f caps)] = bo (zs.any p) := by
  rw [F53.run, F83.run, I1_len]
  have := loop_find (xs := zs) (L := fun n i => F83.L2 k (C k) n (I1 zs) f caps (zs.length : Int) i) (stop := fun _ x => p x) (hit := fun i => some [(false, [.d (.int .i64 (i : Int))])]) (fin := some [(false, [.d (.int .i64 (-1))])])
    (fun n i x hx => by
      have hi := (List.getElem?_eq_some_iff.1 hx).1
      rw [F83.L2.succ, I1_len, ite'_t (lt_t hi), ite'_t (inR_t hi)]
      simp only [Int.toNat_natCast, cellI_at (I1_get' hx), List.getElem?_cons_zero, Option.bind_some, asI_s, bindI_s]
      rw [next_i hi hz]
      have := hp x (List.mem_of_getElem? hx)
      simp only [List.append_eq, List.nil_append] at this ⊢
      rw [this, bB]; rfl)
    (fun n => by rw [F83.L2.succ, ite'_f (lt_f (by omega))]) k hk
  rcases this with ⟨i, x, hx, hst, e⟩ | ⟨hst, e⟩
  · rw [show F83.L2 k (C k) k (I1 zs) f caps (zs.length : Int) 0 = _ from e]
    simp only [bindR_s, resI_s, bindI_s]
    exact bo_eq (by rw [List.any_eq_true.2 ⟨x, List.mem_of_getElem? hx, hst⟩]; simp)
  · rw [show F83.L2 k (C k) k (I1 zs) f caps (zs.length : Int) 0 = _ from e]
    simp only [bindR_s, resI_s, bindI_s]
    refine bo_eq ?_
    rw [List.any_eq_false.2 (fun x hx => ?_)]
    · rfl
    · obtain ⟨i, hi⟩ := List.mem_iff_getElem?.1 hx
      simpa using hst i x hi
/-! ### relations -/
def Rl : Ty := .list [.str, .int .i64, .bool]
/-- both IsValidRelation -/
def relOk (s : List UInt8) (n : Int) : Bool := decide (s.length = 1) && (decide (byteAt s 0 ≥ 97) && (decide (byteAt s 0 ≤ 122) && decide (1 ≤ n ∧ n ≤ 3)))
theorem c94 (s : List UInt8) (n : Int) (b : Bool) : C (k + 2) 94 [.agg [.d (.str s), .d (.int .i64 n), .d (.bool b)]] = bo (relOk s n) := by
  rw [F94.run]
  by_cases h : s.length = 1
  · obtain ⟨h1, h2⟩ := letter s h
    rw [ite'_t (by simp; omega), h1, h2, c95, bB]
    unfold relOk
    rw [decide_eq_true h]
    cases decide (byteAt s 0 ≥ 97) <;> cases decide (byteAt s 0 ≤ 122) <;> rfl
  · rw [ite'_f (by simp; omega)]
    unfold relOk
    rw [decide_eq_false h]
    rfl
theorem c93 (s : List UInt8) (n : Int) (b : Bool) : C (k + 2) 93 [.agg [.d (.str s), .d (.int .i64 n), .d (.bool b)]] = bo (relOk s n) := by
  rw [F93.run]
  by_cases h : s.length = 1
  · rw [ite'_t (by simp; omega), ite'_t (by simp [inR]; omega), ite'_t (b := inR 0 s.length) (by simp [inR]; omega), c90, bB]
    unfold relOk
    rw [decide_eq_true h]
    cases decide (byteAt s 0 ≥ 97) <;> cases decide (byteAt s 0 ≤ 122) <;> rfl
  · rw [ite'_f (by simp; omega)]
    unfold relOk
    rw [decide_eq_false h]
    rfl
/-- both AreValidRelations answer alike -/
theorem rels {a : Ovi.Rows} (ha : Fit Rl (.list 3 a)) : ∃ b, ∀ k, a.length < k → C (k + 3) 70 [.d (.list 3 a)] = bo b ∧ C (k + 3) 65 [.d (.list 3 a)] = bo b := by
  have hlen := ha.len
  have key : ∀ (m i : Nat), i + m = a.length → ∃ b, ∀ k n, m < n → F70.L2 (k + 2) (C (k + 2)) n a a (a.length : Int) (i : Int) = bo b ∧ F65.L2 (k + 2) (C (k + 2)) n a (i : Int) = bo b := by
    intro m
    induction m with
    | zero =>
      intro i hm
      refine ⟨decide ((a.length : Int) ≤ 6), fun k n hn => ?_⟩
      obtain ⟨n, rfl⟩ : ∃ j, n = j + 1 := ⟨n - 1, by omega⟩
      constructor
      · rw [F70.L2.succ, ite'_f (lt_f (by omega))]; rfl
      · rw [F65.L2.succ, ite'_f (lt_f (by omega))]; rfl
    | succ m ih =>
      intro i hm
      have hi : i < a.length := by omega
      obtain ⟨row, hr, hfr, _⟩ := ha.row hi
      obtain ⟨d0, r0, rfl, f0, h1⟩ := Fits.cons hfr
      obtain ⟨d1, r1, rfl, f1, h1⟩ := Fits.cons h1
      obtain ⟨d2, r2, rfl, f2, h1⟩ := Fits.cons h1
      obtain rfl := Fits.nil h1
      obtain ⟨s, rfl, hs⟩ := f0.str
      obtain ⟨x, rfl, _⟩ := f1.int
      obtain ⟨b, rfl⟩ := f2.bool
      obtain ⟨bb, ih⟩ := ih (i + 1) (by omega)
      have step : ∀ k n, F70.L2 (k + 2) (C (k + 2)) (n + 1) a a (a.length : Int) (i : Int) = ite' (!relOk s x) (bo false) (ite' (decide ((i : Int) > 0)) (ite' (inR (IntKind.i64.wrap ((i : Int) - 1)) a.length) (bindS (cellS a (IntKind.i64.wrap ((i : Int) - 1)).toNat 0) fun s13 => ite' (sLess s s13 || s == s13) (bo false) (F70.L2 (k + 2) (C (k + 2)) n a a (a.length : Int) ((i + 1 : Nat) : Int))) none) (F70.L2 (k + 2) (C (k + 2)) n a a (a.length : Int) ((i + 1 : Nat) : Int))) ∧
          F65.L2 (k + 2) (C (k + 2)) (n + 1) a (i : Int) = ite' (!relOk s x) (bo false) (ite' (decide ((i : Int) > 0)) (ite' (inR (IntKind.i64.wrap ((i : Int) - 1)) a.length) (bindS (cellS a (IntKind.i64.wrap ((i : Int) - 1)).toNat 0) fun s11 => ite' (!sLess s11 s) (bo false) (F65.L2 (k + 2) (C (k + 2)) n a ((i + 1 : Nat) : Int))) none) (F65.L2 (k + 2) (C (k + 2)) n a ((i + 1 : Nat) : Int))) := by
        intro k n
        rw [F70.L2.succ, F65.L2.succ, ite'_t (lt_t hi), ite'_t (inR_t hi), ite'_t (lt_t hi), ite'_t (inR_t hi)]
        simp only [Int.toNat_natCast, cellI_at hr, cellS_at hr, cellB_at hr, List.getElem?_cons_zero, List.getElem?_cons_succ, Option.bind_some, asI_s, asS_s, asB_s, bindI_s, bindS_s, bindB_s]
        rw [c94, c93, next_i hi hlen, bB, bB]
        refine ⟨rfl, ?_⟩
        simp only [show ∀ x y : Option Res, ite' (inR (i : Int) a.length) x y = x from fun x y => ite'_t (inR_t hi)]
        rfl
      cases hv : relOk s x with
      | false =>
        refine ⟨false, fun k n hn => ?_⟩
        obtain ⟨n, rfl⟩ : ∃ j, n = j + 1 := ⟨n - 1, by omega⟩
        obtain ⟨e1, e2⟩ := step k n
        rw [e1, e2, hv]
        exact ⟨rfl, rfl⟩
      | true =>
        by_cases h0 : i = 0
        · subst h0
          refine ⟨bb, fun k n hn => ?_⟩
          obtain ⟨n, rfl⟩ : ∃ j, n = j + 1 := ⟨n - 1, by omega⟩
          obtain ⟨e1, e2⟩ := step k n
          rw [e1, e2, hv]
          exact ih k n (by omega)
        · have hw : IntKind.i64.wrap ((i : Int) - 1) = ((i - 1 : Nat) : Int) := by
            unfold maxLen at hlen
            rw [wrap_id (by omega) (by omega)]; omega
          obtain ⟨row', hr', hfr', _⟩ := ha.row (i := i - 1) (by omega)
          obtain ⟨d0', r0', rfl, f0', h1'⟩ := Fits.cons hfr'
          obtain ⟨s', rfl, hs'⟩ := f0'.str
          have hcs : cellS a ((i - 1 : Nat) : Int).toNat 0 = some s' := by rw [Int.toNat_natCast, cellS_at hr']; rfl
          have hgt : decide ((i : Int) > 0) = true := by simp; omega
          have hin : inR ((i - 1 : Nat) : Int) a.length = true := inR_t (by omega)
          cases hl : sLess s' s with
          | true =>
            refine ⟨bb, fun k n hn => ?_⟩
            obtain ⟨n, rfl⟩ : ∃ j, n = j + 1 := ⟨n - 1, by omega⟩
            obtain ⟨e1, e2⟩ := step k n
            rw [e1, e2, hv, hw, hgt, hin, hcs]
            simp only [bindS_s]
            rw [sLess_total, hl]
            exact ih k n (by omega)
          | false =>
            refine ⟨false, fun k n hn => ?_⟩
            obtain ⟨n, rfl⟩ : ∃ j, n = j + 1 := ⟨n - 1, by omega⟩
            obtain ⟨e1, e2⟩ := step k n
            rw [e1, e2, hv, hw, hgt, hin, hcs]
            simp only [bindS_s]
            rw [sLess_total, hl]
            exact ⟨rfl, rfl⟩
  obtain ⟨b, hb⟩ := key a.length 0 (by omega)
  refine ⟨b, fun k hk => ?_⟩
  rw [F70.run, F65.run]
  exact hb k (k + 2) (by omega)
end Go.Proofs.Ythicohakeljdcaa.Q

/-! PIa -/
namespace Go.Proofs.Ythicohakeljdcaa.Q
open Go Ovi
variable {k : Nat}
/-- what the atoms hold: z is a variable of theirs -/
def isVar (xs : List Atom) (z : Int) : Prop := 0 ≤ z ∧ ∃ x ∈ xs, z ∈ x.2
def terms (xs : List Atom) : Nat := (xs.map fun x => x.2.length).sum
theorem terms_at {xs : List Atom} {i : Nat} {x : Atom} (h : xs[i]? = some x) : terms (xs.take i) + x.2.length = terms (xs.take (i + 1)) := by
  obtain ⟨hi, e⟩ := List.getElem?_eq_some_iff.1 h
  unfold terms
  rw [List.take_succ_eq_append_getElem hi, e]
  simp
theorem terms_le (xs : List Atom) (i : Nat) : terms (xs.take i) ≤ terms xs := by
  have : terms xs = terms (xs.take i) + terms (xs.drop i) := by
    unfold terms
    rw [← List.sum_append, ← List.map_append, List.take_append_drop]
  omega
theorem isVar_take {xs : List Atom} {i : Nat} {x : Atom} (h : xs[i]? = some x) (z : Int) : isVar (xs.take (i + 1)) z ↔ isVar (xs.take i) z ∨ (0 ≤ z ∧ z ∈ x.2) := by
  obtain ⟨hi, e⟩ := List.getElem?_eq_some_iff.1 h
  unfold isVar
  rw [List.take_succ_eq_append_getElem hi, e]
  simp only [List.mem_append, List.mem_singleton]
  constructor
  · rintro ⟨h0, y, hy | rfl, hz⟩
    · exact .inl ⟨h0, y, hy, hz⟩
    · exact .inr ⟨h0, hz⟩
  · rintro (⟨h0, y, hy, hz⟩ | ⟨h0, hz⟩)
    · exact ⟨h0, y, .inl hy, hz⟩
    · exact ⟨h0, x, .inr rfl, hz⟩
end Go.Proofs.Ythicohakeljdcaa.Q

/-! PHb -/
namespace Go.Proofs.Ythicohakeljdcaa.Q
open Go Ovi
variable {k : Nat}
/-! ### values -/
def isN (v : Int) : Bool := decide (-40 ≤ v ∧ v ≤ -1)
def okV (v : Int) : Bool := decide (-40 ≤ v ∧ v ≤ 9)
def nn (v : Int) : Option Res := some [(false, [.d (.int .i64 (if isN v then -1 - v else 0))]), (false, [.d (.bool (isN v))])]
theorem nnB (v : Int) (f : Int → Bool → Option Res) : (bindR (nn v) fun r => bindI (resI .i64 2 false 1 r 0 0) fun n => bindB (resB 2 false 1 r 1 0) fun b => f n b) = f (if isN v then -1 - v else 0) (isN v) := rfl
theorem isN_t {v : Int} (h : isN v = true) : -40 ≤ v ∧ v ≤ -1 := of_decide_eq_true h
theorem isN_f {v : Int} (h : isN v = false) : ¬ (-40 ≤ v ∧ v ≤ -1) := of_decide_eq_false h
theorem wrapN {v : Int} (h : inI v) : IntKind.i64.wrap (-1 - v) = -1 - v := by unfold inI at h; exact wrap_id (by omega) (by omega)
/-- spec.NullNumber -/
theorem c66 {v : Int} (h : inI v) : C (k + 2) 66 [.d (.int .i64 v)] = nn v := by
  rw [F66.run]
  by_cases h0 : v ≥ 0
  · rw [ite'_t (by simpa using h0)]
    have : isN v = false := decide_eq_false (by omega)
    simp [nn, this]
  · rw [ite'_f (by simpa using h0), wrapN h, c90, bB]
    by_cases h1 : isN v = true
    · have := isN_t h1
      rw [decide_eq_true (by omega), ite'_nt]
      simp [nn, h1]
    · have h1 : isN v = false := by simpa using h1
      have := isN_f h1
      rw [decide_eq_false (by omega), ite'_nf]
      simp [nn, h1]
/-- impl.NullNumber -/
theorem c100 {v : Int} (h : inI v) : C (k + 2) 100 [.d (.int .i64 v)] = nn v := by
  rw [F100.run, wrapN h, c95, bB]
  by_cases h1 : isN v = true
  · have := isN_t h1
    rw [decide_eq_true (by omega), ite'_nt]
    simp [nn, h1]
  · have h1 : isN v = false := by simpa using h1
    have := isN_f h1
    rw [decide_eq_false (by omega), ite'_nf]
    simp [nn, h1]
/-- spec.IsValidValue -/
theorem c91 {v : Int} (h : inI v) : C (k + 3) 91 [.d (.int .i64 v)] = bo (okV v) := by
  rw [F91.run, c66 h, nnB]
  by_cases h1 : isN v = true
  · have := isN_t h1
    rw [ite'_t h1]
    exact bo_eq (b := true) (by rw [okV, decide_eq_true (by omega)])
  · have h1 : isN v = false := by simpa using h1
    have := isN_f h1
    rw [ite'_f h1, c90, bB]
    refine bo_eq ?_
    unfold okV
    rw [Bool.eq_iff_iff]
    simp only [decide_eq_true_eq]
    omega
/-- impl.IsValidValue -/
theorem c97 (v : Int) : C (k + 2) 97 [.d (.int .i64 v)] = bo (okV v) := by
  rw [F97.run, c95, bB]; rfl
/-- the numbers of the nulls among values -/
def nulls (zs : List Int) : List Int := Lib.compact (sortInts ((zs.filter isN).map fun v => -1 - v))
theorem nulls_ss (zs : List Int) : SS (nulls zs) := ss_compact _
theorem mem_nulls (zs : List Int) (n : Int) : n ∈ nulls zs ↔ ∃ v ∈ zs, isN v = true ∧ n = -1 - v := by
  unfold nulls
  rw [mem_compact, mem_sortInts]
  simp only [List.mem_map, List.mem_filter]
  constructor
  · rintro ⟨v, ⟨h1, h2⟩, rfl⟩; exact ⟨v, h1, h2, rfl⟩
  · rintro ⟨v, h1, h2, rfl⟩; exact ⟨v, ⟨h1, h2⟩, rfl⟩
theorem nulls_len (zs : List Int) : (nulls zs).length ≤ zs.length := by
  unfold nulls
  have h1 := compact_len (sortInts ((zs.filter isN).map fun v => -1 - v))
  have h2 : (sortInts ((zs.filter isN).map fun v => -1 - v)).length = (zs.filter isN).length := by simp [sortInts]
  have h3 := List.length_filter_le isN zs
  omega
/-- impl.nullsOf -/
theorem c82 (zs : List Int) (hI : ∀ z ∈ zs, inI z) (hk : zs.length < k) (hz : zs.length ≤ 1048576) : C (k + 3) 82 [.d (.list 1 (I1 zs))] = some [(false, [.row 3 1 (I1 (nulls zs))])] := by
  rw [F82.run, I1_len]
  have hmax : (1048576 : Nat) ≤ maxLen := by decide
  have main : ∀ (m i n : Nat), i + m = zs.length → m < n → F82.L3 (k + 2) (C (k + 2)) n (I1 zs) (zs.length : Int) (i : Int) (I1 (((zs.take i).filter isN).map fun v => -1 - v)) = some [(false, [.row 3 1 (I1 (nulls zs))])] := by
    intro m
    induction m with
    | zero =>
      intro i n hm hn
      obtain ⟨n, rfl⟩ : ∃ j, n = j + 1 := ⟨n - 1, by omega⟩
      obtain rfl : i = zs.length := by omega
      rw [List.take_length]
      have hf := List.length_filter_le isN zs
      generalize hacc : (zs.filter isN).map (fun v => -1 - v) = acc
      have hal : acc.length ≤ zs.length := by rw [← hacc]; simpa using hf
      have e1 : C (k + 2) 56 [.var 0 0, .d (.int .i64 3), .d (.list 1 (I1 acc))] = some [(false, [.row 3 1 (I1 (sortInts acc))])] := by
        show sortP _ = _
        unfold sortP rawArg
        simp only [ints_I1]
        rw [show Nat.ble acc.length 1099511627776 = true from Nat.ble_eq_true_of_le (by omega)]
        rfl
      have hsl : (sortInts acc).length = acc.length := by simp [sortInts]
      have e2 : C (k + 2) 57 [.var 0 0, .d (.int .i64 3), .d (.list 1 (I1 (sortInts acc)))] = some [(false, [.row 3 1 (I1 (Lib.compact (sortInts acc)))]), (true, [])] := by
        show compactP _ = _
        unfold compactP rawArg
        simp only [ints_I1]
        rw [show Nat.ble (sortInts acc).length 1099511627776 = true from Nat.ble_eq_true_of_le (by omega)]
        rfl
      rw [F82.L3.succ, ite'_f (lt_f (by omega)), e1]
      simp only [bindR_s, resO_s, bindL_s]
      rw [e2]
      unfold nulls
      rw [hacc]
      rfl
    | succ m ih =>
      intro i n hm hn
      obtain ⟨n, rfl⟩ : ∃ j, n = j + 1 := ⟨n - 1, by omega⟩
      have hi : i < zs.length := by omega
      have hx := List.getElem?_eq_getElem hi
      have hft := List.length_filter_le isN (zs.take i)
      rw [F82.L3.succ, I1_len, ite'_t (lt_t hi), ite'_t (inR_t hi)]
      simp only [Int.toNat_natCast, cellI_at (I1_get' hx), List.getElem?_cons_zero, Option.bind_some, asI_s, bindI_s]
      rw [c100 (hI _ (List.getElem_mem hi)), nnB, next_i hi (m := zs.length) (by omega)]
      have hstep : (zs.take (i + 1)).filter isN = (zs.take i).filter isN ++ (if isN zs[i] then [zs[i]] else []) := by
        rw [List.take_succ_eq_append_getElem hi, List.filter_append]
        cases h : isN zs[i] <;> simp [h]
      have := ih (i + 1) n (by omega) (by omega)
      rw [hstep] at this
      cases h : isN zs[i] with
      | true =>
        rw [ite'_t rfl, ite'_t (fits_t (by simp [I1_len] at hft ⊢; omega))]
        rw [h] at this
        simp only [if_true, List.map_append, List.map_cons, List.map_nil] at this ⊢
        rw [← this]
        simp [I1]
      | false =>
        rw [ite'_f rfl]
        rw [h] at this
        simpa using this
  exact main zs.length 0 (k + 2) (by omega) (by omega)
/-- spec.l4Put keeps the order -/
theorem c67s (zs : List Int) (v : Int) (hS : SS zs) (hk : zs.length < k) (hz : zs.length ≤ 1048576) : ∃ r ws, C (k + 1) 67 [.d (.list 1 (I1 zs)), .d (.int .i64 v)] = some r ∧ resL 1 1 false 1 r 0 0 = some (I1 ws) ∧ (∀ z, z ∈ ws ↔ z ∈ zs ∨ z = v) ∧ ws.length ≤ zs.length + 1 ∧ SS ws := by
  rw [F67.run]
  have hmax : (1048576 : Nat) ≤ maxLen := by decide
  have ins : ∀ i : Nat, i ≤ zs.length → (∀ (j : Nat) y, j < i → zs[j]? = some y → y < v) → (∀ y, zs[i]? = some y → v < y) → ∃ r ws, (ite' (inS (i : Int) ((I1 zs).length : Int) (I1 zs).length) (ite' (fits (([[D.int .i64 v]] : Ovi.Rows).length + ((I1 zs).drop (i : Int).toNat).length)) (ite' (inS (0 : Int) (i : Int) (I1 zs).length) (ite' (fits ((I1 zs).take (i : Int).toNat).length) (ite' (fits (((I1 zs).take (i : Int).toNat).length + List.length ([[D.int .i64 v]] ++ (I1 zs).drop (i : Int).toNat))) (some ([(false, [RL.row 3 1 ((I1 zs).take (i : Int).toNat ++ ([[D.int .i64 v]] ++ (I1 zs).drop (i : Int).toNat))])] : Res)) none) none) none) none) none) = some r ∧ resL 1 1 false 1 r 0 0 = some (I1 ws) ∧ (∀ z, z ∈ ws ↔ z ∈ zs ∨ z = v) ∧ ws.length ≤ zs.length + 1 ∧ SS ws := by
    intro i hi hlt hgt
    rw [I1_len, ite'_t (by simp [inS]; omega), ite'_t (fits_t (by simp [I1_len]; omega)), ite'_t (by simp [inS]; omega), ite'_t (fits_t (by simp [I1_len]; omega)), ite'_t (fits_t (by simp [I1_len]; omega))]
    refine ⟨_, zs.take i ++ v :: zs.drop i, rfl, ?_, fun z => ?_, by simp; omega, ?_⟩
    · rw [resL_s]
      simp [I1]
    · have : z ∈ zs ↔ z ∈ zs.take i ∨ z ∈ zs.drop i := by rw [← List.mem_append, List.take_append_drop]
      rw [this, List.mem_append, List.mem_cons]
      constructor
      · rintro (h | h | h)
        · exact .inl (.inl h)
        · exact .inr h
        · exact .inl (.inr h)
      · rintro ((h | h) | h)
        · exact .inl h
        · exact .inr (.inr h)
        · exact .inr (.inl h)
    · have hd : ∀ y ∈ zs.drop i, v < y := by
        intro y hy
        obtain ⟨j, hj⟩ := List.mem_iff_getElem?.1 hy
        rw [List.getElem?_drop] at hj
        have hil : i < zs.length := by have := (List.getElem?_eq_some_iff.1 hj).1; omega
        have h0 := hgt zs[i] (List.getElem?_eq_getElem hil)
        rcases Nat.eq_zero_or_pos j with rfl | hjp
        · rw [Nat.add_zero, List.getElem?_eq_getElem hil] at hj; cases hj; exact h0
        · obtain ⟨hjl, e⟩ := List.getElem?_eq_some_iff.1 hj
          have := List.pairwise_iff_getElem.1 hS i (i + j) hil hjl (by omega)
          omega
      have ht : ∀ y ∈ zs.take i, y < v := by
        intro y hy
        obtain ⟨j, hj⟩ := List.mem_iff_getElem?.1 hy
        obtain ⟨hjl, e⟩ := List.getElem?_eq_some_iff.1 hj
        simp only [List.length_take] at hjl
        rw [List.getElem?_take_of_lt (by omega)] at hj
        exact hlt j y (by omega) hj
      refine List.pairwise_append.2 ⟨hS.sublist (List.take_sublist _ _), List.pairwise_cons.2 ⟨hd, hS.sublist (List.drop_sublist _ _)⟩, fun x hx y hy => ?_⟩
      have := ht x hx
      rcases List.mem_cons.1 hy with rfl | hy
      · exact this
      · have := hd y hy; omega
  have main : ∀ (m i n : Nat), i + m = zs.length → m < n → (∀ (j : Nat) y, j < i → zs[j]? = some y → y < v) → ∃ r ws, F67.L2 k (C k) n (I1 zs) v (i : Int) = some r ∧ resL 1 1 false 1 r 0 0 = some (I1 ws) ∧ (∀ z, z ∈ ws ↔ z ∈ zs ∨ z = v) ∧ ws.length ≤ zs.length + 1 ∧ SS ws := by
    intro m
    induction m with
    | zero =>
      intro i n hm hn hlt
      obtain ⟨n, rfl⟩ : ∃ j, n = j + 1 := ⟨n - 1, by omega⟩
      obtain ⟨r, ws, h1, h2⟩ := ins i (by omega) hlt (fun y hy => by have := (List.getElem?_eq_some_iff.1 hy).1; omega)
      refine ⟨r, ws, ?_, h2⟩
      rw [F67.L2.succ]
      rw [ite'_f (b := decide ((i : Int) < ((I1 zs).length : Int))) (by rw [I1_len]; exact lt_f (by omega))]
      rw [ite'_f (b := decide ((i : Int) < ((I1 zs).length : Int))) (by rw [I1_len]; exact lt_f (by omega))]
      exact h1
    | succ m ih =>
      intro i n hm hn hlt0
      obtain ⟨n, rfl⟩ : ∃ j, n = j + 1 := ⟨n - 1, by omega⟩
      have hi : i < zs.length := by omega
      have hx := List.getElem?_eq_getElem hi
      rw [F67.L2.succ]
      rw [ite'_t (b := decide ((i : Int) < ((I1 zs).length : Int))) (by rw [I1_len]; exact lt_t hi)]
      rw [ite'_t (b := inR (i : Int) (I1 zs).length) (by rw [I1_len]; exact inR_t hi)]
      rw [show cellI .i64 (I1 zs) (i : Int).toNat 0 = some zs[i] by rw [Int.toNat_natCast, cellI_at (I1_get' hx)]; rfl]
      simp only [bindI_s]
      by_cases hlt : zs[i] < v
      · rw [ite'_t (by simpa using hlt), next_i hi (m := zs.length) (by omega)]
        refine ih (i + 1) n (by omega) (by omega) (fun j y hj hy => ?_)
        by_cases hji : j = i
        · subst hji; rw [hx] at hy; cases hy; exact hlt
        · exact hlt0 j y (by omega) hy
      · rw [ite'_f (b := decide (zs[i] < v)) (by simpa using hlt)]
        rw [ite'_t (b := decide ((i : Int) < ((I1 zs).length : Int))) (by rw [I1_len]; exact lt_t hi)]
        rw [ite'_t (b := inR (i : Int) (I1 zs).length) (by rw [I1_len]; exact inR_t hi)]
        by_cases heq : zs[i] = v
        · rw [ite'_t (b := zs[i] == v) (by simpa using heq)]
          refine ⟨_, zs, rfl, resL_d _ _, fun z => ⟨.inl, ?_⟩, by omega, hS⟩
          rintro (h | h)
          · exact h
          · rw [h, ← heq]; exact List.getElem_mem hi
        · rw [ite'_f (b := zs[i] == v) (by simpa using heq)]
          obtain ⟨r, ws, h1, h2⟩ := ins i (by omega) hlt0 (fun y hy => by rw [hx] at hy; cases hy; omega)
          exact ⟨r, ws, h1, h2⟩
  have := main zs.length 0 k (by omega) (by omega) (fun j y hj => by omega)
  exact this
/-- spec.NullsOfFact -/
theorem c29 (r : Int) (zs : List Int) (hI : ∀ z ∈ zs, inI z) (hk : zs.length < k) (hz : zs.length ≤ 1048576) : C (k + 3) 29 [.agg [.d (.int .i64 r), .d (.list 1 (I1 zs))]] = some [(false, [.d (.list 1 (I1 (nulls zs)))])] := by
  rw [F29.run]
  have hmax : (1048576 : Nat) ≤ maxLen := by decide
  have main : ∀ (m i n : Nat) (acc : List Int), i + m = zs.length → m < n → SS acc → acc.length ≤ i → (∀ z, z ∈ acc ↔ ∃ v ∈ zs.take i, isN v = true ∧ z = -1 - v) → F29.L3 (k + 2) (C (k + 2)) n (I1 acc) (i : Int) r (I1 zs) = some [(false, [.d (.list 1 (I1 (nulls zs)))])] := by
    intro m
    induction m with
    | zero =>
      intro i n acc hm hn hS hl hmem
      obtain ⟨n, rfl⟩ : ∃ j, n = j + 1 := ⟨n - 1, by omega⟩
      obtain rfl : i = zs.length := by omega
      rw [List.take_length] at hmem
      rw [F29.L3.succ, I1_len, ite'_f (lt_f (by omega)), ss_eq hS (nulls_ss zs) (fun z => by rw [hmem z, mem_nulls])]
    | succ m ih =>
      intro i n acc hm hn hS hl hmem
      obtain ⟨n, rfl⟩ : ∃ j, n = j + 1 := ⟨n - 1, by omega⟩
      have hi : i < zs.length := by omega
      have hx := List.getElem?_eq_getElem hi
      have htk : ∀ z, z ∈ zs.take (i + 1) ↔ z ∈ zs.take i ∨ z = zs[i] := by
        intro z
        rw [List.take_succ_eq_append_getElem hi]
        simp only [List.mem_append, List.mem_singleton]
      rw [F29.L3.succ, I1_len, ite'_t (lt_t hi), ite'_t (inR_t hi)]
      simp only [Int.toNat_natCast, cellI_at (I1_get' hx), List.getElem?_cons_zero, Option.bind_some, asI_s, bindI_s]
      rw [c66 (hI _ (List.getElem_mem hi)), nnB, next_i hi (m := zs.length) (by omega)]
      cases h : isN zs[i] with
      | true =>
        obtain ⟨r', ws, e1, e2, e3, e4, e5⟩ := c67s (k := k + 1) acc (-1 - zs[i]) hS (by omega) (by omega)
        rw [ite'_t rfl]
        simp only [if_true]
        rw [e1]
        simp only [bindR_s]
        rw [e2, bindL_s]
        refine ih (i + 1) n ws (by omega) (by omega) e5 (by omega) (fun z => ?_)
        rw [e3 z, hmem z]
        constructor
        · rintro (⟨v, h1, h2⟩ | h1)
          · exact ⟨v, (htk v).2 (.inl h1), h2⟩
          · exact ⟨zs[i], (htk _).2 (.inr rfl), h, h1⟩
        · rintro ⟨v, h1, h2⟩
          rcases (htk v).1 h1 with h1 | rfl
          · exact .inl ⟨v, h1, h2⟩
          · exact .inr h2.2
      | false =>
        rw [ite'_f rfl]
        refine ih (i + 1) n acc (by omega) (by omega) hS (by omega) (fun z => ?_)
        rw [hmem z]
        constructor
        · rintro ⟨v, h1, h2⟩
          exact ⟨v, (htk v).2 (.inl h1), h2⟩
        · rintro ⟨v, h1, h2⟩
          rcases (htk v).1 h1 with h1 | rfl
          · exact ⟨v, h1, h2⟩
          · rw [h] at h2; cases h2.1
  exact main zs.length 0 (k + 2) [] (by omega) (by omega) (by simp [SS]) (by simp) (fun z => by simp)
/-- impl.NullsOfFact -/
theorem c52 (r : Int) (zs : List Int) (hI : ∀ z ∈ zs, inI z) (hk : zs.length < k) (hz : zs.length ≤ 1048576) : C (k + 4) 52 [.agg [.d (.int .i64 r), .d (.list 1 (I1 zs))]] = some [(false, [.row 3 1 (I1 (nulls zs))])] := by
  rw [F52.run, c82 zs hI hk hz]
  rfl
end Go.Proofs.Ythicohakeljdcaa.Q

/-
Sorting rows of integers and of facts, removing repeats, repeating, cloning, as primitives. No condition.
-/
import Derived.Test.YtkkaikcjcjkpbaaGreatOb
import Derived.Shelf.SlSortCmp.Kit1
import Derived.Lib.SlicesCompact
import Derived.Shelf.SlSortCmp.KitK
import Derived.Lib.SliceRun
import Derived.Shelf.SlicesE.Clone
set_option linter.unusedVariables false
set_option linter.unusedSimpArgs false
/-! Srf -/
namespace Ovi
open Go Go.Proofs Go.RowKit Go.Sort Go.Lib

/-! ### slices.SortFunc on rows of integer lists, under slices.Compare -/
def cmpL : List Int → List Int → Int
  | [], [] => 0
  | [], _ :: _ => -1
  | _ :: _, [] => 1
  | x :: xs, y :: ys => if x < y then -1 else if x > y then 1 else cmpL xs ys
def ltL (x y : List Int) : Bool := decide (cmpL x y < 0)
theorem ltL_iff : ∀ (x y : List Int), ltL x y = true ↔ x < y
  | [], [] => by simp [ltL, cmpL]
  | [], y :: ys => by simp [ltL, cmpL]
  | x :: xs, [] => by simp [ltL, cmpL]
  | x :: xs, y :: ys => by
    rw [List.cons_lt_cons_iff, ← ltL_iff xs ys]
    unfold ltL
    rw [show cmpL (x :: xs) (y :: ys) = if x < y then -1 else if x > y then 1 else cmpL xs ys from rfl]
    simp only [decide_eq_true_eq]
    by_cases h1 : x < y
    · simp [h1]
    · by_cases h2 : x > y
      · rw [if_neg h1, if_pos h2]
        constructor
        · intro h; omega
        · rintro (h | ⟨h, _⟩) <;> omega
      · have h3 : x = y := by omega
        rw [if_neg h1, if_neg h2]
        constructor
        · intro h; exact .inr ⟨h3, h⟩
        · rintro (h | ⟨_, h⟩)
          · omega
          · exact h
theorem ltL_f (x y : List Int) : ltL x y = false ↔ y ≤ x := by
  rw [← List.not_lt, ← ltL_iff, Bool.not_eq_true]
theorem swoL : SWO ltL where
  irrefl x := by rw [ltL_f]; exact List.le_refl _
  trans x y z h1 h2 := by rw [ltL_iff] at *; exact List.lt_trans h1 h2
  ntrans x y z h1 h2 := by rw [ltL_f] at *; exact List.le_trans h2 h1
theorem antiL (x y : List Int) (h1 : ltL x y = false) (h2 : ltL y x = false) : x = y := by
  rw [ltL_f] at h1 h2
  exact List.le_antisymm h2 h1
def sortLists (l : BL) : BL := l.mergeSort fun x y => !ltL y x
theorem mem_sortLists (l : BL) (b : List Int) : b ∈ sortLists l ↔ b ∈ l := by simp [sortLists]
theorem sortLists_len (l : BL) : (sortLists l).length = l.length := by simp [sortLists]
theorem srt_unique {l l' : BL} (hp : l'.Perm l) (hs : l'.Pairwise fun x y => ltL y x = false) : l' = sortLists l := by
  refine List.Perm.eq_of_pairwise (le := fun x y => (!ltL y x) = true) ?_ ?_ ?_ (hp.trans (List.mergeSort_perm _ _).symm)
  · intro a b _ _ h1 h2
    simp only [Bool.not_eq_true'] at h1 h2
    exact antiL a b h2 h1
  · exact hs.imp fun h => by rw [h]; rfl
  · refine List.pairwise_mergeSort ?_ ?_ _
    · intro a b c h1 h2
      simp only [Bool.not_eq_true'] at h1 h2 ⊢
      exact swoL.ntrans c b a h2 h1
    · intro a b
      cases h : ltL b a with
      | false => simp
      | true =>
        have : ltL a b = false := by
          rw [ltL_iff] at h
          rw [ltL_f]
          exact List.le_of_lt h
        simp [this]
def LL (l : BL) : Rows := l.map fun zs => [.list 1 (I1 zs)]
theorem LL_len (l : BL) : (LL l).length = l.length := by simp [LL]
theorem LL_get (l : BL) (i : Nat) : (LL l)[i]? = (l[i]?).map fun zs => [.list 1 (I1 zs)] := by simp [LL]
theorem LL_at {l : BL} {i : Nat} {zs : List Int} (h : l[i]? = some zs) : cellD (LL l) i 0 = some (.list 1 (I1 zs)) := by simp [cellD, LL_get, h]
theorem LL_cell {l : BL} {i c : Nat} {x : D} (h : cellD (LL l) i c = some x) : c = 0 ∧ ∃ zs, l[i]? = some zs ∧ x = .list 1 (I1 zs) := by
  obtain ⟨row, hr, hc⟩ := cellD_lt h
  rw [LL_get] at hr
  obtain ⟨zs, hz, rfl⟩ := Option.map_eq_some_iff.1 hr
  cases c with
  | zero => simp at hc; exact ⟨rfl, zs, hz, hc.symm⟩
  | succ c => simp at hc
theorem LL_rows (l : BL) : ∀ (i : Nat) (x : List D), (LL l)[i]? = some x → x.length = 1 := by
  intro i x h
  rw [LL_get] at h
  obtain ⟨z, _, rfl⟩ := Option.map_eq_some_iff.1 h
  rfl
def lists : Rows → Option BL
  | [] => some []
  | [.list 1 xs] :: r => (ints xs).bind fun zs => (lists r).bind fun l => some (zs :: l)
  | _ => none
theorem lists_LL (l : BL) : lists (LL l) = some l := by
  induction l with
  | nil => rfl
  | cons zs l ih =>
    show ((ints (I1 zs)).bind fun zs => (lists (LL l)).bind fun l => some (zs :: l)) = _
    rw [ih, ints_I1]
    rfl
theorem lists_some : ∀ {xs : Rows} {l : BL}, lists xs = some l → xs = LL l
  | [], l, h => by cases h; rfl
  | [.list 1 xs] :: r, l, h => by
    unfold lists at h
    obtain ⟨zs, h1, h⟩ := Option.bind_eq_some_iff.1 h
    obtain ⟨l', h2, h⟩ := Option.bind_eq_some_iff.1 h
    cases h
    rw [lists_some h2, ints_some h1]
    rfl
def sortFArg (g : Nat) : Args → Option (Nat × BL)
  | [.var 0 0, .d (.int .i64 e), .d (.list 1 xs), .d (.fn g' [])] => cond (Nat.beq g' g) ((lists xs).bind fun l => cond (Nat.ble l.length 1099511627776 && l.all fun z => Nat.ble z.length 1099511627776) (some (e.toNat, l)) none) none
  | _ => none
def sortFP (g : Nat) (args : Args) : Option Res := (sortFArg g args).bind fun p => some [(false, [.row p.1 1 (LL (sortLists p.2))])]
theorem sortFArg_isRaw {g : Nat} {args : Args} {p : Nat × BL} (h : sortFArg g args = some p) : ∃ e xs, args = [.var 0 0, .d (.int .i64 e), .d (.list 1 xs), .d (.fn g [])] := by
  unfold sortFArg at h
  split at h
  · rename_i e xs g'
    cases hb : Nat.beq g' g with
    | false => rw [hb] at h; cases h
    | true => exact ⟨e, xs, by rw [Nat.eq_of_beq_eq_true hb]⟩
  · cases h
theorem sortFArg_some {g : Nat} {k : IntKind} {e : Int} {sz : Nat} {xs : Rows} {rest : Args} {p : Nat × BL} (h : sortFArg g (rawTag :: .d (.int k e) :: .d (.list sz xs) :: rest) = some p) : sz = 1 ∧ rest = [.d (.fn g [])] ∧ xs = LL p.2 ∧ p.1 = e.toNat ∧ p.2.length ≤ 1099511627776 ∧ ∀ z ∈ p.2, z.length ≤ 1099511627776 := by
  obtain ⟨e1, xs1, heq⟩ := sortFArg_isRaw h
  simp only [rawTag, List.cons.injEq, AV.d.injEq, D.int.injEq, D.list.injEq, true_and] at heq
  obtain ⟨⟨rfl, rfl⟩, ⟨rfl, rfl⟩, rfl⟩ := heq
  simp only [sortFArg, rawTag, show Nat.beq g g = true from Nat.beq_refl g, cond_true] at h
  obtain ⟨l, hl, h⟩ := Option.bind_eq_some_iff.1 h
  cases hb : (Nat.ble l.length 1099511627776 && l.all fun z => Nat.ble z.length 1099511627776) with
  | false => rw [hb] at h; cases h
  | true =>
    rw [hb] at h
    cases h
    rw [Bool.and_eq_true, List.all_eq_true] at hb
    exact ⟨rfl, rfl, lists_some hl, rfl, Nat.le_of_ble_eq_true hb.1, fun z hz => Nat.le_of_ble_eq_true (hb.2 z hz)⟩
/-- a list of integers, laid in the blocks of S -/
def RI (w : World) (S : Nat → Prop) (u : Value) (zs : List Int) : Prop := ∃ A cap, u = .slice A zs.length cap ∧ zs.length ≤ cap ∧ ∀ (i : Nat) z, zs[i]? = some z → ∃ ad, A = some ad ∧ S ad.block ∧ w.cell? (ad.add i) = some (.int .i64 z)
section
variable {P : Program} {G : Gd} {w w' : World} {S T : Nat → Prop} {u : Value} {zs : List Int}
theorem RD.ri (h : RD w S T u (.list 1 (I1 zs))) : RI w S u zs := by
  generalize hxs : I1 zs = XS at h
  cases h with
  | list A cap sz xs g h1 h3 h4 h5 h6 =>
    subst hxs
    rw [I1_len] at h1
    refine ⟨A, cap, by rw [I1_len], h1, fun i z hz => ?_⟩
    obtain ⟨ad, e1, e2, e3⟩ := h4 i 0 _ (I1_at hz)
    have hr := h5 i 0 _ (I1_at hz)
    refine ⟨ad, e1, e2, ?_⟩
    rw [Nat.mul_one, Nat.add_zero] at e3
    rw [e3]
    generalize g i 0 = G at hr
    cases hr
    rfl
theorem RI.rd (h : RI w S u zs) : RD w S T u (.list 1 (I1 zs)) := by
  obtain ⟨A, cap, rfl, h1, h2⟩ := h
  have := RD.list (w := w) (S := S) (T := T) A cap 1 (I1 zs) (fun i _ => .int .i64 (zs.getD i 0)) (by rw [I1_len]; exact h1) (I1_rows zs) (fun i c x hx => by
    obtain ⟨rfl, z, hz, rfl⟩ := I1_cell hx
    obtain ⟨ad, e1, e2, e3⟩ := h2 i z hz
    refine ⟨ad, e1, e2, ?_⟩
    rw [Nat.mul_one, Nat.add_zero, e3, List.getD_eq_getElem?_getD, hz]
    rfl) (fun i c x hx => by
    obtain ⟨rfl, z, hz, rfl⟩ := I1_cell hx
    rw [List.getD_eq_getElem?_getD, hz]
    exact .int _ _) (fun i c x hx => by
    obtain ⟨rfl, z, hz, rfl⟩ := I1_cell hx
    rfl)
  rw [I1_len] at this
  exact this
theorem RI.stab (h : RI w S u zs) (hs : Stab S w w') : RI w' S u zs := by
  obtain ⟨A, cap, rfl, h1, h2⟩ := h
  refine ⟨A, cap, rfl, h1, fun i z hz => ?_⟩
  obtain ⟨ad, e1, e2, e3⟩ := h2 i z hz
  exact ⟨ad, e1, e2, by rw [← e3]; exact hs.cell (by rw [add_block]; exact e2)⟩
structure HdL (w : World) (S : Nat → Prop) where
  v : Value
  l : List Int
  h : RI w S v l
  b : l.length ≤ 1099511627776
def encH (h : HdL w S) : Value := h.v
def lstH (h : HdL w S) : List Int := h.l
instance : Inhabited (HdL w S) := ⟨⟨.slice none 0 0, [], ⟨none, 0, rfl, Nat.le_refl _, fun i z h => by simp at h⟩, by simp⟩⟩
def cmpH (x y : HdL w S) : Int := cmpL (lstH x) (lstH y)
theorem swoH : SWO (ltOf (cmpH (w := w) (S := S))) := ⟨fun x => swoL.irrefl _, fun x y z h1 h2 => swoL.trans _ _ _ h1 h2, fun x y z h1 h2 => swoL.ntrans _ _ _ h1 h2⟩
end
/-- what is asked of the comparison -/
def CmpC (P : Program) (g : FuncId) : Prop := ∀ (w : World) (S : Nat → Prop) (u v : Value) (xs ys : List Int), RI w S u xs → RI w S v ys → xs.length ≤ 1099511627776 → ys.length ≤ 1099511627776 →
  Calls P g #[u, v] w fun e w' => e = .returned (.int .i64 (cmpL xs ys)) ∧ ∃ q os, w' = grow (w.drewN q) os
/-- what the shelf promises of slices.SortFunc at rows of lists -/
structure SortFC (P : Program) (f g : FuncId) : Prop where
  known : Known P f
  run : ∀ (w : World) (S : Nat → Prop) (blk cap : Nat) (d : Array (HdL w S)), (∀ k, S k → k < w.heap.size) → ¬ S blk → Holds encH w blk 0 d → blk < w.heap.size → d.size < 4611686018427387904 →
    Calls P f #[.slice (some ⟨blk, 0, none⟩) d.size cap, .func (.func g) #[] #[]] w fun e w' => e = .returned (.tuple #[]) ∧ ∃ (d' : Array (HdL w S)) (n : Nat) (os : Array Obj), PermIn 0 d.size d d' ∧ SortedIn (ltOf cmpH) 0 d.size d' ∧ w' = sortWorld encH w blk 0 n d' os
  nil : ∀ (A : Option Addr) (w : World), Calls P f #[.slice A 0 0, .func (.func g) #[] #[]] w fun e w' => e = .returned (.tuple #[]) ∧ Below w.heap.size w w'
section
variable {P : Program} {G : Gd} {w : World} {S T : Nat → Prop} {b e cap : Nat} {α : Type} [Inhabited α] {enc : α → Value}
theorem heapS {n : Nat} {os : Array Obj} {cur : Array Value} {fr : Nat × Nat} (d : Array α) (hb : w.heap[b]? = some (.cells cur e fr)) :
    (sortWorld enc w b 0 n d os).heap[b]? = some (.cells (putCells enc 0 d cur) e fr) := by
  have hg : b < w.heap.size := (Array.getElem?_eq_some_iff.1 hb).1
  unfold sortWorld
  rw [heap_grow_old _ _ (by simpa using hg)]
  simp [putRow, mapBlock, Sort.ahead, Array.getElem?_modify, hb, onCells]
theorem heapO {n : Nat} {os : Array Obj} (d : Array α) {k : Nat} (hk : k < w.heap.size) (hne : k ≠ b) : (sortWorld enc w b 0 n d os).heap[k]? = w.heap[k]? := by
  unfold sortWorld
  rw [heap_grow_old _ _ (by simpa using hk)]
  simp [putRow, mapBlock, Sort.ahead, Array.getElem?_modify, Ne.symm hne]
theorem stabS {n : Nat} {os : Array Obj} (d : Array α) (hS : ∀ k, S k → k < w.heap.size) (hb : ¬ S b) : Stab S w (sortWorld enc w b 0 n d os) :=
  fun k hk => heapO d (hS k hk) fun h => hb (h ▸ hk)
end
theorem mkH {w : World} {S : Nat → Prop} {cur : Array Value} : ∀ (l : BL) (o : Nat), (∀ i zs, l[i]? = some zs → ∃ v, cur[o + i]? = some v ∧ RI w S v zs ∧ zs.length ≤ 1099511627776) → ∃ d : List (HdL w S), d.map lstH = l ∧ ∀ j x, d[j]? = some x → cur[o + j]? = some (encH x)
  | [], o, _ => ⟨[], rfl, fun j x h => by simp at h⟩
  | z :: l, o, h => by
    obtain ⟨d, h1, h2⟩ := mkH l (o + 1) fun i zs hz => by
      have := h (i + 1) zs (by simpa using hz)
      rwa [show o + (i + 1) = o + 1 + i by omega] at this
    obtain ⟨v, hv, hr, hzb⟩ := h 0 z rfl
    refine ⟨(⟨v, z, hr, hzb⟩ : HdL w S) :: d, by rw [List.map_cons, h1]; rfl, fun j x hx => ?_⟩
    cases j with
    | zero => cases hx; exact hv
    | succ j => rw [show o + (j + 1) = o + 1 + j by omega]; exact h2 j x (by simpa using hx)
theorem plain_raw' {P : Program} {G : Gd} {f : FuncId} {rest : Args} {r : Res} : PlainC P G f (.var 0 0 :: rest) r := by
  intro w S T vs hS hT hl
  obtain ⟨u, hu, ⟨cs, h⟩, _⟩ := hl.2 0 _ rfl
  cases h
theorem sortF_sound {P : Program} {G : Gd} {fs g : FuncId} (h : SortFC P fs g) {args : Args} {r : Res} (hr : sortFP g args = some r) : PlainC P G fs args r ∧ ∀ k e sz xs rest, args = rawTag :: .d (.int k e) :: .d (.list sz xs) :: rest → ∀ e' : Nat, e = e' → RawC P fs e' sz xs rest r := by
  obtain ⟨⟨e0, l⟩, hra, hr⟩ := Option.bind_eq_some_iff.1 hr
  cases hr
  refine ⟨?_, fun k e sz xs rest hargs e' he => ?_⟩
  · obtain ⟨_, _, rfl⟩ := sortFArg_isRaw hra
    exact plain_raw'
  · subst hargs
    obtain ⟨rfl, rfl, rfl, h4, hlen, hlz⟩ := sortFArg_some hra
    simp only at h4 hlen hlz
    subst he h4
    intro w S T mo u vs hS hT hrow hl
    have hvs : vs = #[.func (.func g) #[] #[]] := by
      obtain ⟨u0, hu0, hrd⟩ := hl.2 0 _ rfl
      have hrd : RD w S T u0 (.fn g []) := hrd
      have h1 : vs.size = 1 := hl.1
      have h2 : u0 = .func (.func g) #[] #[] := by
        generalize hc : ([] : Rows) = CS at hrd
        cases hrd with
        | fn f vs' caps g' k1 k4 k5 =>
          subst hc
          rw [Array.eq_empty_of_size_eq_zero k1]
      subst h2
      apply Array.ext_getElem?
      intro i
      cases i with
      | zero => rw [hu0]; rfl
      | succ i => rw [Array.getElem?_eq_none (by omega), Array.getElem?_eq_none (by simp)]
    subst hvs
    simp only [Int.toNat_natCast]
    have hsl := sortLists_len l
    cases mo with
    | none =>
      obtain ⟨_, ⟨_, A, rfl⟩, hn⟩ := hrow
      have hz : l = [] := by simpa [LL] using hn
      subst hz
      refine (h.nil A w).mono fun ex w' ⟨h1, h2⟩ => ⟨_, h1, h2, fun _ => ⟨by simp [LL, sortLists], rfl, ?_⟩⟩
      refine ⟨fun i x hx => by simp [LL, sortLists] at hx, ⟨by simp [LL, sortLists], A, rfl⟩, by simp [LL, sortLists]⟩
    | some b =>
      obtain ⟨_, ⟨cap, cur, rfl, hc, h1, h2, h3⟩, _, hnS, cur', hc', h5, h6⟩ := hrow
      rw [LL_len] at *
      rw [hc] at hc'
      cases hc'
      have hblk : b < w.heap.size := lt_of_blk hc
      obtain ⟨dl, hd1, hdl⟩ := mkH (w := w) (S := S) (cur := cur) l 0 fun i zs hz => by
        obtain ⟨_, v, hv, hrd⟩ := h6 i 0 _ (LL_at hz)
        rw [Nat.mul_one, Nat.add_zero] at hv
        exact ⟨v, by rw [Nat.zero_add]; exact hv, RD.ri hrd, hlz _ (List.mem_of_getElem? hz)⟩
      obtain ⟨d, rfl⟩ : ∃ d : Array (HdL w S), dl = d.toList := ⟨dl.toArray, rfl⟩
      have hd2 : Holds encH w b 0 d := by
        intro j hj
        rw [getElem!_pos d j hj]
        refine ⟨?_, by simp [World.frozen?, hc]⟩
        simp only [World.cell?, hc, Option.isSome_none, Bool.false_eq_true, if_false]
        exact hdl j _ (by simp [hj])
      have hds : d.size = l.length := by rw [← hd1]; simp
      have hcall := h.run w S b cap d hS hnS hd2 hblk (by omega)
      rw [hds] at hcall
      refine hcall.mono fun ex w' ⟨k1, d', n, os, ⟨p1, _, p3⟩, k3, k4⟩ => ?_
      subst k4
      have hds' : d'.size = l.length := by rw [p1, hds]
      have hext : ∀ (a : Array (HdL w S)) (m : Nat), a.size = m → a.extract 0 m = a := fun a m hm => by subst hm; exact Array.extract_size
      rw [hext d' _ hds', hext d _ hds] at p3
      have hys : d'.toList.map lstH = sortLists l := by
        refine srt_unique (by rw [← hd1]; exact p3.map _) ?_
        rw [List.pairwise_map, List.pairwise_iff_getElem]
        intro i j hi hj hij
        have hi' : i < d'.size := by simpa using hi
        have hj' : j < d'.size := by simpa using hj
        have := k3 i j (Nat.zero_le _) hij (by omega)
        rw [getElem!_pos d' j hj', getElem!_pos d' i hi'] at this
        exact this
      have hnew := heapS (enc := encH) (n := n) (os := os) d' hc
      have hcsz : (putCells encH 0 d' cur).size = cur.size := by simp [putCells]
      have hst := stabS (enc := encH) (n := n) (os := os) d' hS hnS
      refine ⟨_, k1, ⟨cur, _, hc, hcsz, rfl, rfl, rfl, by simp [sortWorld, grow, putRow, mapBlock, Sort.ahead, setBlk], fun k hk => ?_⟩, fun _ => ⟨by rw [LL_len, LL_len, hsl], rfl, LL_rows _, ?_, Nat.zero_le _, hnS, _, hnew, by rw [LL_len, hsl, hcsz]; omega, fun i c x hx => ?_⟩⟩
      · have hk : k < w.heap.size := by simpa using hk
        by_cases hkb : k = b
        · subst hkb
          rw [setBlk_at hblk, hnew]
        · rw [setBlk_ne hkb]
          exact heapO _ hk hkb
      · rw [LL_len, hsl]
        exact ⟨cap, _, rfl, hnew, h1, h2, by rw [hcsz]; omega⟩
      · obtain ⟨rfl, zs, hz, rfl⟩ := LL_cell hx
        have hi : i < d'.size := by
          have := (List.getElem?_eq_some_iff.1 hz).1
          omega
        refine ⟨rfl, encH d'[i], ?_, ?_⟩
        · have h5' : l.length * 1 ≤ cur.size := h5
          have hic : i < cur.size := by omega
          simp only [Nat.mul_one, Nat.add_zero, putCells, Array.getElem?_mapIdx]
          rw [Array.getElem?_eq_getElem hic]
          simp [hi]
        · have : lstH d'[i] = zs := by
            rw [← hys] at hz
            simpa [hi] using hz
          rw [← this]
          exact RI.rd (RI.stab d'[i].h hst)
theorem SortFC.ok {P : Program} {G : Gd} {f g : FuncId} (h : SortFC P f g) : PrimOk P G f (sortFP g) := ⟨h.known, (fun args r hr => (sortF_sound h hr).1), (fun k e sz xs rest r hr e' he => (sortF_sound (G := noG) h hr).2 k e sz xs rest rfl e' he)⟩
end Ovi

/-! Mt -/
/-! Matches of atoms in facts, rows of answers: plain lists alone. -/
namespace Ovi
open Go
/-- what it takes that terms are values -/
def fitS : List Int → List Int → List Int → Option (List Int)
  | t :: ts, v :: vs, b => if t < 0 then (if v = -1 - t then fitS ts vs b else none) else if b.getD t.toNat 0 = 10 then fitS ts vs (b.set t.toNat v) else if b.getD t.toNat 0 = v then fitS ts vs b else none
  | _, _, b => some b
theorem fitS_len : ∀ (ts vs b b' : List Int), fitS ts vs b = some b' → b'.length = b.length
  | [], _, b, b', h => by simp only [fitS] at h; cases h; rfl
  | t :: ts, [], b, b', h => by simp only [fitS] at h; cases h; rfl
  | t :: ts, v :: vs, b, b', h => by
    rw [fitS] at h
    split at h
    · split at h
      · exact fitS_len ts vs b b' h
      · cases h
    · split at h
      · rw [fitS_len ts vs _ b' h, List.length_set]
      · split at h
        · exact fitS_len ts vs b b' h
        · cases h
def fitA (x f : Atom) (b : List Int) : Option (List Int) := if x.1 = f.1 then fitS x.2 f.2 b else none
theorem fitA_len {x f : Atom} {b b' : List Int} (h : fitA x f b = some b') : b'.length = b.length := by
  unfold fitA at h
  split at h
  · exact fitS_len _ _ _ _ h
  · cases h
/-- the matches of the atoms that go on with a binding -/
def mats (fs : List Atom) : List Atom → List Int → BL
  | [], b => [b]
  | x :: xs, b => fs.flatMap fun f => ((fitA x f b).map (mats fs xs)).getD []
theorem mats_len (fs : List Atom) : ∀ (xs : List Atom) (b : List Int), (mats fs xs b).length ≤ fs.length ^ xs.length
  | [], b => by simp [mats]
  | x :: xs, b => by
    rw [mats, List.length_flatMap, List.length_cons, Nat.pow_succ]
    have h : ∀ gs : List Atom, (gs.map fun f => (((fitA x f b).map (mats fs xs)).getD []).length).sum ≤ fs.length ^ xs.length * gs.length := by
      intro gs
      induction gs with
      | nil => simp
      | cons g gs ih =>
        rw [List.map_cons, List.sum_cons, List.length_cons, Nat.mul_succ]
        have : (((fitA x g b).map (mats fs xs)).getD []).length ≤ fs.length ^ xs.length := by
          cases fitA x g b with
          | none => simp
          | some b' => simpa using mats_len fs xs b'
        omega
    exact h fs
theorem mats_mem (fs : List Atom) : ∀ (xs : List Atom) (b c : List Int), c ∈ mats fs xs b → c.length = b.length
  | [], b, c, h => by rw [mats, List.mem_singleton] at h; rw [h]
  | x :: xs, b, c, h => by
    rw [mats, List.mem_flatMap] at h
    obtain ⟨f, _, hc⟩ := h
    cases hf : fitA x f b with
    | none => rw [hf] at hc; simp at hc
    | some b' =>
      rw [hf] at hc
      rw [mats_mem fs xs b' c (by simpa using hc), fitA_len hf]
/-- the first of each -/
def ded : BL → BL → BL
  | out, [] => out
  | out, b :: bs => ded (if b ∈ out then out else out ++ [b]) bs
theorem ded_len : ∀ (bs out : BL), (ded out bs).length ≤ out.length + bs.length
  | [], out => by simp [ded]
  | b :: bs, out => by
    rw [ded]
    have := ded_len bs (if b ∈ out then out else out ++ [b])
    split at this
    · rename_i h; rw [if_pos h]; simp only [List.length_cons]; omega
    · rename_i h; rw [if_neg h]; simp only [List.length_cons, List.length_append, List.length_singleton, List.length_nil] at *; omega
theorem ded_mem : ∀ (bs out : BL) (c : List Int), c ∈ ded out bs ↔ c ∈ out ∨ c ∈ bs
  | [], out, c => by simp [ded]
  | b :: bs, out, c => by
    rw [ded, ded_mem bs]
    by_cases h : b ∈ out
    · rw [if_pos h, List.mem_cons]
      constructor
      · rintro (h' | h')
        · exact .inl h'
        · exact .inr (.inr h')
      · rintro (h' | rfl | h')
        · exact .inl h'
        · exact .inl h
        · exact .inr h'
    · rw [if_neg h, List.mem_append, List.mem_singleton, List.mem_cons]
      constructor
      · rintro ((h' | h') | h')
        · exact .inl h'
        · exact .inr (.inl h')
        · exact .inr (.inr h')
      · rintro (h' | h' | h')
        · exact .inl (.inl h')
        · exact .inl (.inr h')
        · exact .inr h'
def proj (q b : List Int) : List Int := q.map fun v => b.getD v.toNat 0
end Ovi

/-! Cmf -/
namespace Ovi
open Go Go.Proofs Go.RowKit Go.Sort Go.Lib

/-! ### slices.CompactFunc on rows of integer lists, under slices.Equal -/
theorem mem_compactL (zs : BL) (z : List Int) : z ∈ Lib.compact zs ↔ z ∈ zs := by
  unfold Lib.compact Lib.compactUpTo
  simp only [List.mem_map, List.mem_filter, List.mem_range]
  constructor
  · rintro ⟨i, ⟨hi, _⟩, rfl⟩
    rw [getElem!_pos _ i (by simpa using hi)]
    simp
  · intro h
    obtain ⟨i, hi, e⟩ := List.mem_iff_getElem.1 h
    have key : ∀ i, i < zs.length → ∃ j, (j < zs.length ∧ Lib.keeps zs.toArray j = true) ∧ zs.toArray[j]! = zs.toArray[i]! := by
      intro i
      induction i with
      | zero => intro h0; exact ⟨0, ⟨h0, by simp [Lib.keeps]⟩, rfl⟩
      | succ i ih =>
        intro h0
        by_cases hk : Lib.keeps zs.toArray (i + 1) = true
        · exact ⟨i + 1, ⟨h0, hk⟩, rfl⟩
        · have : zs.toArray[i + 1]! = zs.toArray[i]! := by
            simp only [Lib.keeps, decide_eq_true_eq, not_or, Nat.add_sub_cancel, Decidable.not_not] at hk
            exact hk.2
          obtain ⟨j, h1, h2⟩ := ih (by omega)
          exact ⟨j, h1, by rw [h2, this]⟩
    obtain ⟨j, h1, h2⟩ := key i hi
    refine ⟨j, h1, ?_⟩
    rw [h2, getElem!_pos _ i (by simpa using hi)]
    simpa using e
theorem compactL_len (zs : BL) : (Lib.compact zs).length ≤ zs.length := by
  unfold Lib.compact Lib.compactUpTo
  rw [List.length_map]
  exact Nat.le_trans (List.length_filter_le _ _) (by simp)
def compFP (g : Nat) (args : Args) : Option Res := (sortFArg g args).bind fun p => some [(false, [.row p.1 1 (LL (Lib.compact p.2))]), (true, [])]
/-- what is asked of the equality -/
def EqC (P : Program) (g : FuncId) : Prop := ∀ (w : World) (S : Nat → Prop) (u v : Value) (xs ys : List Int), RI w S u xs → RI w S v ys → xs.length ≤ 1099511627776 → ys.length ≤ 1099511627776 →
  Calls P g #[u, v] w fun e w' => e = .returned (.bool (decide (xs = ys))) ∧ ∃ q, w' = w.drewN q
structure CompFC (P : Program) (f g : FuncId) : Prop where
  known : Known P f
  run : ∀ (w : World) (S : Nat → Prop) (blk cap : Nat) (d : Array (HdL w S)), (∀ k, S k → k < w.heap.size) → ¬ S blk → Holds encH w blk 0 d → blk < w.heap.size → d.size < 4611686018427387904 → d.size ≤ cap →
    Calls P f #[.slice (some ⟨blk, 0, none⟩) d.size cap, .func (.func g) #[] #[]] w fun e w' => ∃ (dk : Array (HdL w S)) (q kk : Nat), e = .returned (.slice (some ⟨blk, 0, none⟩) kk cap) ∧ dk.size = d.size ∧ w' = putRow encH (Sort.ahead w q) blk 0 dk ∧ kk ≤ d.size ∧ (dk.toList.take kk).map lstH = Lib.compact (d.toList.map lstH)
  nil : ∀ (A : Option Addr) (cap : Nat) (w : World), Calls P f #[.slice A 0 cap, .func (.func g) #[] #[]] w fun e w' => e = .returned (.slice A 0 cap) ∧ w' = w
theorem fn_arg {w : World} {S T : Nat → Prop} {g : FuncId} {vs : Array Value} (hl : Leaves (AC w S T (fun _ => none) (fun _ => none)) vs [.d (.fn g [])]) : vs = #[.func (.func g) #[] #[]] := by
  obtain ⟨u0, hu0, hrd⟩ := hl.2 0 _ rfl
  have hrd : RD w S T u0 (.fn g []) := hrd
  have h1 : vs.size = 1 := hl.1
  have h2 : u0 = .func (.func g) #[] #[] := by
    generalize hc : ([] : Rows) = CS at hrd
    cases hrd with
    | fn f vs' caps g' k1 k4 k5 =>
      subst hc
      rw [Array.eq_empty_of_size_eq_zero k1]
  subst h2
  apply Array.ext_getElem?
  intro i
  cases i with
  | zero => rw [hu0]; rfl
  | succ i => rw [Array.getElem?_eq_none (by omega), Array.getElem?_eq_none (by simp)]
theorem compF_sound {P : Program} {G : Gd} {fs g : FuncId} (h : CompFC P fs g) {args : Args} {r : Res} (hr : compFP g args = some r) : PlainC P G fs args r ∧ ∀ k e sz xs rest, args = rawTag :: .d (.int k e) :: .d (.list sz xs) :: rest → ∀ e' : Nat, e = e' → RawC P fs e' sz xs rest r := by
  obtain ⟨⟨e0, l⟩, hra, hr⟩ := Option.bind_eq_some_iff.1 hr
  cases hr
  refine ⟨?_, fun k e sz xs rest hargs e' he => ?_⟩
  · obtain ⟨_, _, rfl⟩ := sortFArg_isRaw hra
    exact plain_raw'
  · subst hargs
    obtain ⟨rfl, rfl, rfl, h4, hlen, hlz⟩ := sortFArg_some hra
    simp only at h4 hlen hlz
    subst he h4
    intro w S T mo u vs hS hT hrow hl
    obtain rfl := fn_arg hl
    simp only [Int.toNat_natCast]
    have hsl := compactL_len l
    cases mo with
    | none =>
      obtain ⟨_, ⟨_, A, rfl⟩, hn⟩ := hrow
      have hz : l = [] := by simpa [LL] using hn
      subst hz
      refine (h.nil A 0 w).mono fun ex w' ⟨h1, h2⟩ => ⟨_, h1, by subst h2; exact Below.refl _ _, fun _ => ?_⟩
      exact ⟨fun i x hx => by simp [LL, Lib.compact, Lib.compactUpTo] at hx, ⟨by simp [LL, Lib.compact, Lib.compactUpTo], A, rfl⟩, by simp [LL, Lib.compact, Lib.compactUpTo]⟩
    | some b =>
      obtain ⟨_, ⟨cap, cur, rfl, hc, h1, h2, h3⟩, _, hnS, cur', hc', h5, h6⟩ := hrow
      rw [LL_len] at *
      rw [hc] at hc'
      cases hc'
      have hblk : b < w.heap.size := lt_of_blk hc
      obtain ⟨dl, hd1, hdl⟩ := mkH (w := w) (S := S) (cur := cur) l 0 fun i zs hz => by
        obtain ⟨_, v, hv, hrd⟩ := h6 i 0 _ (LL_at hz)
        rw [Nat.mul_one, Nat.add_zero] at hv
        exact ⟨v, by rw [Nat.zero_add]; exact hv, RD.ri hrd, hlz _ (List.mem_of_getElem? hz)⟩
      obtain ⟨d, rfl⟩ : ∃ d : Array (HdL w S), dl = d.toList := ⟨dl.toArray, rfl⟩
      have hd2 : Holds encH w b 0 d := by
        intro j hj
        rw [getElem!_pos d j hj]
        refine ⟨?_, by simp [World.frozen?, hc]⟩
        simp only [World.cell?, hc, Option.isSome_none, Bool.false_eq_true, if_false]
        exact hdl j _ (by simp [hj])
      have hds : d.size = l.length := by rw [← hd1]; simp
      have hcall := h.run w S b cap d hS hnS hd2 hblk (by omega) (by have h1 : l.length ≤ cap := h1; omega)
      rw [hds] at hcall
      refine hcall.mono fun ex w' ⟨dk, q, kk, k1, k2, k3, k4, k5⟩ => ?_
      rw [hd1] at k5
      have k3' : w' = sortWorld encH w b 0 q dk #[] := by rw [k3, sortWorld, grow_empty]
      subst k3'
      have hnew := heapS (enc := encH) (n := q) (os := #[]) dk hc
      have hcsz : (putCells encH 0 dk cur).size = cur.size := by simp [putCells]
      have hst := stabS (enc := encH) (n := q) (os := #[]) dk hS hnS
      have hkk : kk = (Lib.compact l).length := by
        rw [← k5]
        simp only [List.length_map, List.length_take, Array.length_toList]
        omega
      have h5' : l.length * 1 ≤ cur.size := h5
      refine ⟨_, k1, ⟨cur, _, hc, hcsz, rfl, rfl, rfl, by simp [sortWorld, grow, putRow, mapBlock, Sort.ahead, setBlk], fun k hk => ?_⟩, fun _ => ⟨LL_rows _, ?_, Nat.zero_le _, hnS, _, hnew, by rw [LL_len, hcsz]; omega, fun i c x hx => ?_⟩⟩
      · have hk : k < w.heap.size := by simpa using hk
        by_cases hkb : k = b
        · subst hkb
          rw [setBlk_at hblk, hnew]
        · rw [setBlk_ne hkb]
          exact heapO _ hk hkb
      · rw [LL_len, hkk]
        have h1 : l.length ≤ cap := h1
        exact ⟨cap, _, rfl, hnew, by omega, h2, by rw [hcsz]; omega⟩
      · obtain ⟨rfl, zs, hz, rfl⟩ := LL_cell hx
        have hi0 := (List.getElem?_eq_some_iff.1 hz).1
        have hi : i < dk.size := by omega
        refine ⟨rfl, encH dk[i], ?_, ?_⟩
        · have hic : i < cur.size := by omega
          simp only [Nat.mul_one, Nat.add_zero, putCells, Array.getElem?_mapIdx]
          rw [Array.getElem?_eq_getElem hic]
          simp [hi]
        · have : lstH dk[i] = zs := by
            rw [← k5, List.getElem?_map, List.getElem?_take_of_lt (by omega)] at hz
            simpa [hi] using hz
          rw [← this]
          exact RI.rd (RI.stab dk[i].h hst)
theorem CompFC.ok {P : Program} {G : Gd} {f g : FuncId} (h : CompFC P f g) : PrimOk P G f (compFP g) := ⟨h.known, (fun args r hr => (compF_sound h hr).1), (fun k e sz xs rest r hr e' he => (compF_sound (G := noG) h hr).2 k e sz xs rest rfl e' he)⟩
/-- slices.Repeat of one integer -/
def repP (e : Nat) : Args → Option Res
  | [.d (.list 1 [[.int .i64 z]]), .d (.int .i64 n)] => cond (decide (0 ≤ n) && decide (n ≤ 100)) (some [(false, [.row e 1 (I1 (List.replicate n.toNat z))])]) none
  | _ => none
end Ovi

/-! Rsp -/
namespace Ovi
open Go Go.Proofs Go.RowKit Go.Sort Go.Lib

/-! ### rows sorted, each once (a function of the program, on a row of the caller's); slices.Repeat of one integer -/
/-- what rowsSet leaves -/
def RsPost (w : World) (S : Nat → Prop) (blk cap : Nat) (d : Array (HdL w S)) (e : Ending) (w' : World) : Prop :=
  ∃ (d1 dk : Array (HdL w S)) (n q kk : Nat) (os : Array Obj), e = .returned (.slice (some ⟨blk, 0, none⟩) kk cap) ∧ d1.size = d.size ∧ dk.size = d.size ∧ w' = sortWorld encH (sortWorld encH w blk 0 n d1 os) blk 0 q dk #[] ∧ kk ≤ d.size ∧ (dk.toList.take kk).map lstH = Lib.compact (sortLists (d.toList.map lstH))
structure RsC (P : Program) (f : FuncId) : Prop where
  known : Known P f
  run : ∀ (w : World) (S : Nat → Prop) (blk cap : Nat) (d : Array (HdL w S)), (∀ k, S k → k < w.heap.size) → ¬ S blk → Holds encH w blk 0 d → blk < w.heap.size → d.size < 4611686018427387904 → d.size ≤ cap →
    Calls P f #[.slice (some ⟨blk, 0, none⟩) d.size cap] w (RsPost w S blk cap d)
  nil : ∀ (A : Option Addr) (w : World), Calls P f #[.slice A 0 0] w fun e w' => e = .returned (.slice A 0 0) ∧ Below w.heap.size w w'
def rowsArg : Args → Option (Nat × BL)
  | [.var 0 0, .d (.int .i64 e), .d (.list 1 xs)] => (lists xs).bind fun l => cond (Nat.ble l.length 1099511627776 && l.all fun z => Nat.ble z.length 1099511627776) (some (e.toNat, l)) none
  | _ => none
def rowsSetP (args : Args) : Option Res := (rowsArg args).bind fun p => some [(false, [.row p.1 1 (LL (Lib.compact (sortLists p.2)))]), (true, [])]
theorem rowsArg_isRaw {args : Args} {p : Nat × BL} (h : rowsArg args = some p) : ∃ e xs, args = [.var 0 0, .d (.int .i64 e), .d (.list 1 xs)] := by
  unfold rowsArg at h
  split at h
  · exact ⟨_, _, rfl⟩
  · cases h
theorem rowsArg_some {k : IntKind} {e : Int} {sz : Nat} {xs : Rows} {rest : Args} {p : Nat × BL} (h : rowsArg (rawTag :: .d (.int k e) :: .d (.list sz xs) :: rest) = some p) : sz = 1 ∧ rest = [] ∧ xs = LL p.2 ∧ p.1 = e.toNat ∧ p.2.length ≤ 1099511627776 ∧ ∀ z ∈ p.2, z.length ≤ 1099511627776 := by
  obtain ⟨e1, xs1, heq⟩ := rowsArg_isRaw h
  simp only [rawTag, List.cons.injEq, AV.d.injEq, D.int.injEq, D.list.injEq, true_and] at heq
  obtain ⟨⟨rfl, rfl⟩, ⟨rfl, rfl⟩, rfl⟩ := heq
  simp only [rowsArg, rawTag] at h
  obtain ⟨l, hl, h⟩ := Option.bind_eq_some_iff.1 h
  cases hb : (Nat.ble l.length 1099511627776 && l.all fun z => Nat.ble z.length 1099511627776) with
  | false => rw [hb] at h; cases h
  | true =>
    rw [hb] at h
    cases h
    rw [Bool.and_eq_true, List.all_eq_true] at hb
    exact ⟨rfl, rfl, lists_some hl, rfl, Nat.le_of_ble_eq_true hb.1, fun z hz => Nat.le_of_ble_eq_true (hb.2 z hz)⟩
theorem heapS_size {w : World} {α : Type} [Inhabited α] {enc : α → Value} {b n : Nat} {d : Array α} {os : Array Obj} : w.heap.size ≤ (sortWorld enc w b 0 n d os).heap.size := by
  simp only [sortWorld, grow, putRow, mapBlock, Sort.ahead, Array.size_append, Array.size_modify]
  omega
theorem rowsSet_sound {P : Program} {G : Gd} {fs : FuncId} (h : RsC P fs) {args : Args} {r : Res} (hr : rowsSetP args = some r) : PlainC P G fs args r ∧ ∀ k e sz xs rest, args = rawTag :: .d (.int k e) :: .d (.list sz xs) :: rest → ∀ e' : Nat, e = e' → RawC P fs e' sz xs rest r := by
  obtain ⟨⟨e0, l⟩, hra, hr⟩ := Option.bind_eq_some_iff.1 hr
  cases hr
  refine ⟨?_, fun k e sz xs rest hargs e' he => ?_⟩
  · obtain ⟨_, _, rfl⟩ := rowsArg_isRaw hra
    exact plain_raw'
  · subst hargs
    obtain ⟨rfl, rfl, rfl, h4, hlen, hlz⟩ := rowsArg_some hra
    simp only at h4 hlen hlz
    subst he h4
    intro w S T mo u vs hS hT hrow hl
    obtain rfl := leaves_nil hl
    simp only [Array.append_empty, Int.toNat_natCast]
    have hsl : (Lib.compact (sortLists l)).length ≤ l.length := by have := compactL_len (sortLists l); rw [sortLists_len] at this; exact this
    cases mo with
    | none =>
      obtain ⟨_, ⟨_, A, rfl⟩, hn⟩ := hrow
      have hz : l = [] := by simpa [LL] using hn
      subst hz
      refine (h.nil A w).mono fun ex w' ⟨h1, h2⟩ => ⟨_, h1, h2, fun _ => ?_⟩
      exact ⟨fun i x hx => by simp [LL, sortLists, Lib.compact, Lib.compactUpTo] at hx, ⟨by simp [LL, sortLists, Lib.compact, Lib.compactUpTo], A, rfl⟩, by simp [LL, sortLists, Lib.compact, Lib.compactUpTo]⟩
    | some b =>
      obtain ⟨_, ⟨cap, cur, rfl, hc, h1, h2, h3⟩, _, hnS, cur', hc', h5, h6⟩ := hrow
      rw [LL_len] at *
      rw [hc] at hc'
      cases hc'
      have hblk : b < w.heap.size := lt_of_blk hc
      obtain ⟨dl, hd1, hdl⟩ := mkH (w := w) (S := S) (cur := cur) l 0 fun i zs hz => by
        obtain ⟨_, v, hv, hrd⟩ := h6 i 0 _ (LL_at hz)
        rw [Nat.mul_one, Nat.add_zero] at hv
        exact ⟨v, by rw [Nat.zero_add]; exact hv, RD.ri hrd, hlz _ (List.mem_of_getElem? hz)⟩
      obtain ⟨d, rfl⟩ : ∃ d : Array (HdL w S), dl = d.toList := ⟨dl.toArray, rfl⟩
      have hd2 : Holds encH w b 0 d := by
        intro j hj
        rw [getElem!_pos d j hj]
        refine ⟨?_, by simp [World.frozen?, hc]⟩
        simp only [World.cell?, hc, Option.isSome_none, Bool.false_eq_true, if_false]
        exact hdl j _ (by simp [hj])
      have hds : d.size = l.length := by rw [← hd1]; simp
      have hcall := h.run w S b cap d hS hnS hd2 hblk (by omega) (by have h1 : l.length ≤ cap := h1; omega)
      rw [hds] at hcall
      refine hcall.mono fun ex w' ⟨d1, dk, n, q, kk, os, k1, k0, k2, k3, k4, k5⟩ => ?_
      rw [hd1] at k5
      subst k3
      have hnew1 := heapS (enc := encH) (n := n) (os := os) d1 hc
      have hnew := heapS (enc := encH) (n := q) (os := #[]) dk hnew1
      have hcsz : (putCells encH 0 dk (putCells encH 0 d1 cur)).size = cur.size := by simp [putCells]
      have hsz1 : w.heap.size ≤ (sortWorld encH w b 0 n d1 os).heap.size := heapS_size
      have hsz2 : (sortWorld encH w b 0 n d1 os).heap.size ≤ (sortWorld encH (sortWorld encH w b 0 n d1 os) b 0 q dk #[]).heap.size := heapS_size
      have hst1 := stabS (enc := encH) (n := n) (os := os) d1 hS hnS
      have hst2 := stabS (enc := encH) (w := sortWorld encH w b 0 n d1 os) (n := q) (os := #[]) dk (fun k hk => Nat.lt_of_lt_of_le (hS k hk) hsz1) hnS
      have hkk : kk = (Lib.compact (sortLists l)).length := by
        rw [← k5]
        simp only [List.length_map, List.length_take, Array.length_toList]
        omega
      have h5' : l.length * 1 ≤ cur.size := h5
      refine ⟨_, k1, ⟨cur, _, hc, hcsz, rfl, rfl, rfl, by simpa [setBlk] using Nat.le_trans hsz1 hsz2, fun k hk => ?_⟩, fun _ => ⟨LL_rows _, ?_, Nat.zero_le _, hnS, _, hnew, by rw [LL_len, hcsz]; omega, fun i c x hx => ?_⟩⟩
      · have hk : k < w.heap.size := by simpa using hk
        by_cases hkb : k = b
        · subst hkb
          rw [setBlk_at hblk, hnew]
        · rw [setBlk_ne hkb, heapO _ (Nat.lt_of_lt_of_le hk hsz1) hkb]
          exact heapO _ hk hkb
      · rw [LL_len, hkk]
        have h1 : l.length ≤ cap := h1
        exact ⟨cap, _, rfl, hnew, by omega, h2, by rw [hcsz]; omega⟩
      · obtain ⟨rfl, zs, hz, rfl⟩ := LL_cell hx
        have hi0 := (List.getElem?_eq_some_iff.1 hz).1
        have hi : i < dk.size := by omega
        refine ⟨rfl, encH dk[i], ?_, ?_⟩
        · have hic : i < (putCells encH 0 d1 cur).size := by simp only [putCells, Array.size_mapIdx]; omega
          rw [Nat.mul_one, Nat.add_zero]
          conv => lhs; rw [putCells]
          rw [Array.getElem?_mapIdx, Array.getElem?_eq_getElem hic]
          simp [hi]
        · have : lstH dk[i] = zs := by
            rw [← k5, List.getElem?_map, List.getElem?_take_of_lt (by omega)] at hz
            simpa [hi] using hz
          rw [← this]
          exact RI.rd (RI.stab dk[i].h (hst1.trans hst2))
theorem RsC.ok {P : Program} {G : Gd} {f : FuncId} (h : RsC P f) : PrimOk P G f rowsSetP := ⟨h.known, (fun args r hr => (rowsSet_sound h hr).1), (fun k e sz xs rest r hr e' he => (rowsSet_sound (G := noG) h hr).2 k e sz xs rest rfl e' he)⟩
/-- what is shown of slices.Repeat: five times ten -/
def ten5 : Array Value := #[.int .i64 10, .int .i64 10, .int .i64 10, .int .i64 10, .int .i64 10]
structure RepC (P : Program) (f : FuncId) (e : Nat) : Prop where
  known : Known P f
  run : ∀ (b o c : Nat) (w : World), w.cell? ⟨b, o, none⟩ = some (.int .i64 10) → b < w.heap.size →
    Calls P f #[.slice (some ⟨b, o, none⟩) 1 c, .int .i64 5] w fun ex w' => ex = .returned (.slice (some ⟨w.heap.size, 0, none⟩) 5 5) ∧ ∃ q, w' = (w.alloc (.cells ten5 e (0, 0))).drewN q
def rep5P (e : Nat) : Args → Option Res
  | [.d (.list 1 [[.int .i64 z]]), .d (.int .i64 n)] => cond (decide (z = 10) && decide (n = 5)) (some [(false, [.row e 1 (I1 [10, 10, 10, 10, 10])])]) none
  | _ => none
theorem rep_sound {P : Program} {G : Gd} {f : FuncId} {e : Nat} (h : RepC P f e) {args : Args} {r : Res} (hr : rep5P e args = some r) : PlainC P G f args r ∧ isRaw args = false := by
  unfold rep5P at hr
  split at hr
  · rename_i z n
    cases hb : (decide (z = 10) && decide (n = 5)) with
    | false => rw [hb] at hr; cases hr
    | true =>
      rw [hb] at hr
      cases hr
      rw [Bool.and_eq_true, decide_eq_true_eq, decide_eq_true_eq] at hb
      obtain ⟨rfl, rfl⟩ := hb
      refine ⟨?_, rfl⟩
      intro w S T vs hS hT hl _
      obtain ⟨u, v, rfl, hu, hv⟩ := jn_args hl
      cases hv
      have hri : RI w S u [10] := RD.ri hu
      obtain ⟨A, c, rfl, hc, hx⟩ := hri
      obtain ⟨ad, rfl, hSad, hcell⟩ := hx 0 10 rfl
      obtain ⟨b, o, spot⟩ := ad
      have hspot : spot = none := by simpa [Addr.add] using World.cell?_spot hcell
      subst hspot
      have hcell' : w.cell? ⟨b, o, none⟩ = some (.int .i64 10) := by rw [add_at] at hcell; exact hcell
      refine (h.run b o c w hcell' (hS b hSad)).mono fun ex w' ⟨k1, q, k2⟩ => ?_
      subst k2
      have hg : ((w.alloc (.cells ten5 e (0, 0))).drewN q).heap[w.heap.size]? = some (.cells ten5 e (0, 0)) := by
        show (w.heap.push _)[w.heap.size]? = _
        simp
      have hrow : rowC ((w.alloc (.cells ten5 e (0, 0))).drewN q) S T w.heap.size (some w.heap.size) e 1 (I1 [10, 10, 10, 10, 10]) (.slice (some ⟨w.heap.size, 0, none⟩) 5 5) := by
        refine ⟨I1_rows _, ⟨5, ten5, rfl, hg, by simp [I1], by unfold maxLen; omega, rfl⟩, Nat.le_refl _, fun h => Nat.lt_irrefl _ (hS _ h), ten5, hg, by simp [I1, ten5], fun i c' x hx => ?_⟩
        obtain ⟨rfl, z, hz, rfl⟩ := I1_cell hx
        refine ⟨rfl, .int .i64 z, ?_, .int _ _⟩
        have hi := (List.getElem?_eq_some_iff.1 hz).1
        simp only [List.length_cons, List.length_nil] at hi
        rw [Nat.mul_one, Nat.add_zero]
        match i, hi, hz with
        | 0, _, hz => cases hz; rfl
        | 1, _, hz => cases hz; rfl
        | 2, _, hz => cases hz; rfl
        | 3, _, hz => cases hz; rfl
        | 4, _, hz => cases hz; rfl
        | i + 5, hi, _ => omega
      have hbel : Below w.heap.size w ((w.alloc (.cells ten5 e (0, 0))).drewN q) := by
        have := (Below.refl w.heap.size w).alloc (Nat.le_refl _) (.cells ten5 e (0, 0))
        exact ⟨this.os, this.tape, this.output, this.size, this.block⟩
      refine ⟨_, S, fun _ _ => some w.heap.size, k1, hbel, fun _ h => h, fun _ h => .inl h, ⟨[_], rfl, rfl, fun i x hx => ?_⟩, fun i j i' j' b h1 h2 _ _ => ?_⟩
      · cases i with
        | zero => cases hx; exact ⟨_, rfl, _, rfl, hrow⟩
        | succ i => simp at hx
      · have key : ∀ i j, isRow (leafAt [(false, [.row e 1 (I1 [10, 10, 10, 10, 10])])] i j) = true → i = 0 ∧ j = 0 := by
          intro i j hij
          cases i with
          | zero =>
            cases j with
            | zero => exact ⟨rfl, rfl⟩
            | succ j => simp [leafAt, isRow] at hij
          | succ i => simp [leafAt, isRow] at hij
        obtain ⟨rfl, rfl⟩ := key i j h1
        obtain ⟨rfl, rfl⟩ := key i' j' h2
        exact ⟨rfl, rfl⟩
  · cases hr
theorem RepC.ok {P : Program} {G : Gd} {f : FuncId} {e : Nat} (h : RepC P f e) : PrimOk P G f (rep5P e) := ⟨h.known, (fun args r hr => (rep_sound h hr).1), (fun k e0 sz xs rest r hr e' he => by have := (rep_sound (G := noG) h hr).2; cases this)⟩
end Ovi

/-! Skw -/
namespace Go.Proofs
open Go.Shelf Go.RowKit Go.Lib Go.Sort
/-! ### a row of elements of k cells: one element laid, the tail cleared -/
section
variable {P : Program} {α : Type} [Inhabited α] {enc : α → List Value} {k : Nat} {w0 W : World} {blk off : Nat} {dk d0 : Array α}
theorem setMany_flat (hk : ∀ x, (enc x).length = k) (d : Array α) (i : Nat) (x : α) (hi : i < d.size) : setMany (flatK enc k d) (i * k) (enc x) = flatK enc k (d.setIfInBounds i x) := by
  refine ext_get! (by simp) fun t ht => ?_
  have ht' : t < d.size * k := by simpa using ht
  have k0 : 0 < k := by
    rcases Nat.eq_zero_or_pos k with h | h
    · subst h; simp at ht'
    · exact h
  rw [get_setMany _ _ _ t (by simpa using ht'), get_flatK _ _ _ t ht', get_flatK _ _ _ t (by simpa using ht'), hk]
  by_cases b : t / k = i
  · rw [if_pos ((blk_iff k i t k0).2 b)]
    subst b
    rw [show t - t / k * k = t % k by rw [Nat.mod_eq_sub_div_mul]]
    simp [hi]
  · rw [if_neg (fun h => b ((blk_iff k i t k0).1 h))]
    have : (d.setIfInBounds i x)[t / k]! = d[t / k]! := by
      simp only [Array.getElem!_eq_getD, Array.getD]
      have hlt : t / k < d.size := (Nat.div_lt_iff_lt_mul k0).2 ht'
      simp [hlt, Array.getElem_setIfInBounds, Ne.symm b]
    rw [this]
theorem SWK.set (h : SWK enc k w0 blk off dk W) (R : RowK enc k w0 blk off d0) (i : Nat) (hi : i < dk.size) (x : α) : SWK enc k w0 blk off (dk.setIfInBounds i x) (W.setCells blk (off + i * k) (enc x)) := by
  obtain ⟨n, os, rfl⟩ := h
  refine ⟨n, os, ?_⟩
  unfold sortWorldK
  rw [setCells_grow _ _ _ _ _ (by show blk < (putRowK enc k _ blk off dk).heap.size; rw [size_putRowK]; exact R.hblk)]
  unfold putRowK
  rw [setCells_putRow _ _ _ _ _ _ (by rw [R.hk, size_flatK]; exact rowK_bnd dk k i hi), setMany_flat R.hk dk i x hi]
theorem SWK.st0 (h : SWK enc k w0 blk off dk W) (R : RowK enc k w0 blk off d0) (hs : dk.size = d0.size) (P : Program) (i : Nat) (hi : i < dk.size) (y : α) :
    Sem.run P (storeCells ⟨blk, off + i * k, none⟩ (enc y) 0) W = .ok () (W.setCells blk (off + i * k) (enc y)) :=
  stores_of_holds P (h.holds R.hblk R.hH hs) (i * k) _ (by rw [R.hk, size_flatK]; exact rowK_bnd dk k i hi) (R.h1 _)
theorem setCells_append (b : Nat) : ∀ (u v : List Value) (o : Nat) (w : World), w.setCells b o (u ++ v) = (w.setCells b o u).setCells b (o + u.length) v
  | [], v, o, w => rfl
  | x :: u, v, o, w => by
    show (w.setCell ⟨b, o, none⟩ x).setCells b (o + 1) (u ++ v) = ((w.setCell ⟨b, o, none⟩ x).setCells b (o + 1) u).setCells b (o + (u.length + 1)) v
    rw [setCells_append b u v (o + 1), show o + 1 + u.length = o + (u.length + 1) by omega]
theorem SWK.lay (R : RowK enc k w0 blk off d0) (z : α) : ∀ (m i : Nat) (dk : Array α) (W : World), SWK enc k w0 blk off dk W → i + m ≤ dk.size → SWK enc k w0 blk off (Lib.lay dk i (List.replicate m z)) (W.setCells blk (off + i * k) (List.replicate m (enc z)).flatten)
  | 0, i, dk, W, h, _ => h
  | m + 1, i, dk, W, h, hi => by
    rw [List.replicate_succ, List.replicate_succ, List.flatten_cons, setCells_append, R.hk, Lib.lay]
    have := SWK.lay R z m (i + 1) _ _ (h.set R i (by omega) z) (by simpa using (by omega : i + 1 + m ≤ dk.size))
    rw [show off + i * k + k = off + (i + 1) * k by rw [Nat.add_mul, Nat.one_mul]; omega]
    exact this
theorem zero_flat (zs : Array Value) (hz : 0 < zs.size) (n : Nat) : (Builtin.zeroCells zs n).toList = (List.replicate n zs.toList).flatten := by
  apply List.ext_getElem?
  intro i
  unfold Builtin.zeroCells
  induction n generalizing i with
  | zero => simp
  | succ n ih =>
    rw [List.replicate_succ, List.flatten_cons]
    by_cases h : i < zs.size
    · rw [List.getElem?_append_left (by simpa using h)]
      have : i < (n + 1) * zs.size := by rw [Nat.add_mul, Nat.one_mul]; omega
      simp [this, Nat.mod_eq_of_lt h, h]
    · rw [List.getElem?_append_right (by simpa using h), Array.length_toList, ← ih (i - zs.size)]
      by_cases h2 : i < (n + 1) * zs.size
      · have h3 : i - zs.size < n * zs.size := by rw [Nat.add_mul, Nat.one_mul] at h2; omega
        simp [h2, h3, Nat.mod_eq_sub_mod (show zs.size ≤ i by omega)]
      · have h3 : ¬ i - zs.size < n * zs.size := by rw [Nat.add_mul, Nat.one_mul] at h2; omega
        simp [h2, h3]
theorem flat_len (l : List Value) (n : Nat) : (List.replicate n l).flatten.length = n * l.length := by simp
/-- the tail cleared -/
theorem SWK.clear (h : SWK enc k w0 blk off dk W) (R : RowK enc k w0 blk off d0) (hs : dk.size = d0.size) (P : Program) (t e ty : TypeId) (z : α) (zv : Value) (ht : P.underlying t = some (.slice e)) (hv : ∀ w, (zeroValue e).run P w = .ok zv w) (hz : zv.cells.toList = enc z) (hk0 : 0 < k) (i n c : Nat) (hn : 0 < n) (hin : i + n ≤ dk.size) :
    (Builtin.clear_ #[t] ty #[.slice (some ⟨blk, off + i * k, none⟩) n c]).run P W = .ok (.tuple #[]) (W.setCells blk (off + i * k) (List.replicate n (enc z)).flatten) := by
  have hsz : 0 < zv.cells.size := by
    have := R.hk z
    rw [← hz, Array.length_toList] at this
    omega
  have hzc : (Builtin.zeroCells zv.cells n).toList = (List.replicate n (enc z)).flatten := by rw [zero_flat _ hsz, hz]
  have hst := stores_of_holds P (h.holds R.hblk R.hH hs) (i * k) (List.replicate n (enc z)).flatten (by
    rw [flat_len, R.hk, size_flatK, ← Nat.add_mul]
    exact Nat.mul_le_mul_right k hin) (fun v hv' => by
    obtain ⟨l, hl, hvl⟩ := List.mem_flatten.1 hv'
    rw [List.eq_of_mem_replicate hl] at hvl
    exact R.h1 z v hvl)
  obtain ⟨m, rfl⟩ : ∃ m, n = m + 1 := ⟨n - 1, by omega⟩
  simp [Builtin.clear_, run_underlying ht, hv, hzc, hst]
end
end Go.Proofs

/-! Raf -/
namespace Ovi
open Go Go.Proofs Go.RowKit Go.Sort Go.Lib

/-! ### slices.SortFunc and slices.CompactFunc on rows of facts (a number and a list of numbers) -/
def cmpA (x y : Atom) : Int := if x.1 < y.1 then -1 else if x.1 > y.1 then 1 else cmpL x.2 y.2
def ltA (x y : Atom) : Bool := decide (cmpA x y < 0)
theorem ltA_iff (x y : Atom) : ltA x y = true ↔ x.1 < y.1 ∨ (x.1 = y.1 ∧ x.2 < y.2) := by
  rw [← ltL_iff]
  unfold ltA ltL cmpA
  simp only [decide_eq_true_eq]
  by_cases h1 : x.1 < y.1
  · simp [h1]
  · by_cases h2 : x.1 > y.1
    · rw [if_neg h1, if_pos h2]
      constructor
      · intro h; omega
      · rintro (h | ⟨h, _⟩) <;> omega
    · have h3 : x.1 = y.1 := by omega
      rw [if_neg h1, if_neg h2]
      constructor
      · intro h; exact .inr ⟨h3, h⟩
      · rintro (h | ⟨_, h⟩)
        · omega
        · exact h
theorem ltA_f (x y : Atom) : ltA x y = false ↔ y.1 < x.1 ∨ (y.1 = x.1 ∧ y.2 ≤ x.2) := by
  rw [← Bool.not_eq_true, ltA_iff, ← List.not_lt]
  constructor
  · intro h
    by_cases h1 : y.1 < x.1
    · exact .inl h1
    · have : ¬ x.1 < y.1 := fun hh => h (.inl hh)
      have e : y.1 = x.1 := by omega
      exact .inr ⟨e, fun hh => h (.inr ⟨e.symm, hh⟩)⟩
  · rintro (h | ⟨h, h2⟩) (h3 | ⟨h3, h4⟩)
    · omega
    · omega
    · omega
    · exact h2 h4
theorem swoA : SWO ltA where
  irrefl x := by rw [ltA_f]; exact .inr ⟨rfl, List.le_refl _⟩
  trans x y z h1 h2 := by
    rw [ltA_iff] at *
    rcases h1 with h1 | ⟨h1, h1'⟩ <;> rcases h2 with h2 | ⟨h2, h2'⟩
    · exact .inl (by omega)
    · exact .inl (by omega)
    · exact .inl (by omega)
    · exact .inr ⟨by omega, List.lt_trans h1' h2'⟩
  ntrans x y z h1 h2 := by
    rw [ltA_f] at *
    rcases h1 with h1 | ⟨h1, h1'⟩ <;> rcases h2 with h2 | ⟨h2, h2'⟩
    · exact .inl (by omega)
    · exact .inl (by omega)
    · exact .inl (by omega)
    · exact .inr ⟨by omega, List.le_trans h2' h1'⟩
theorem antiA (x y : Atom) (h1 : ltA x y = false) (h2 : ltA y x = false) : x = y := by
  rw [ltA_f] at h1 h2
  rcases h1 with h1 | ⟨h1, h1'⟩ <;> rcases h2 with h2 | ⟨h2, h2'⟩
  · omega
  · omega
  · omega
  · exact Prod.ext h2 (List.le_antisymm h2' h1')
def sortAtoms (l : List Atom) : List Atom := l.mergeSort fun x y => !ltA y x
theorem mem_sortAtoms (l : List Atom) (b : Atom) : b ∈ sortAtoms l ↔ b ∈ l := by simp [sortAtoms]
theorem sortAtoms_len (l : List Atom) : (sortAtoms l).length = l.length := by simp [sortAtoms]
theorem sortAtoms_srt (l : List Atom) : (sortAtoms l).Pairwise fun x y => ltA y x = false := by
  have : (sortAtoms l).Pairwise fun x y => (!ltA y x) = true := by
    refine List.pairwise_mergeSort ?_ ?_ _
    · intro a b c h1 h2
      simp only [Bool.not_eq_true'] at h1 h2 ⊢
      exact swoA.ntrans c b a h2 h1
    · intro a b
      cases h : ltA b a with
      | false => simp
      | true =>
        have : ltA a b = false := by
          cases h' : ltA a b with
          | false => rfl
          | true => have := swoA.trans _ _ _ h h'; rw [swoA.irrefl] at this; cases this
        simp [this]
  exact this.imp fun h => by simpa using h
theorem srtA_unique {l l' : List Atom} (hp : l'.Perm l) (hs : l'.Pairwise fun x y => ltA y x = false) : l' = sortAtoms l := by
  refine List.Perm.eq_of_pairwise (le := fun x y => ltA y x = false) ?_ hs (sortAtoms_srt l) (hp.trans (List.mergeSort_perm _ _).symm)
  intro a b _ _ h1 h2
  exact antiA a b h2 h1
theorem A1_rows (l : List Atom) : ∀ (i : Nat) (x : List D), (A1 l)[i]? = some x → x.length = 2 := by
  intro i x h
  simp only [A1, List.getElem?_map] at h
  obtain ⟨z, _, rfl⟩ := Option.map_eq_some_iff.1 h
  rfl
theorem A1_cell {l : List Atom} {i c : Nat} {x : D} (h : cellD (A1 l) i c = some x) : ∃ z, l[i]? = some z ∧ ((c = 0 ∧ x = .int .i64 z.1) ∨ (c = 1 ∧ x = .list 1 (I1 z.2))) := by
  obtain ⟨row, hr, hc⟩ := cellD_lt h
  simp only [A1, List.getElem?_map] at hr
  obtain ⟨z, hz, rfl⟩ := Option.map_eq_some_iff.1 hr
  refine ⟨z, hz, ?_⟩
  match c, hc with
  | 0, hc => cases hc; exact .inl ⟨rfl, rfl⟩
  | 1, hc => cases hc; exact .inr ⟨rfl, rfl⟩
  | c + 2, hc => simp at hc
theorem A1_at0 {l : List Atom} {i : Nat} {z : Atom} (h : l[i]? = some z) : cellD (A1 l) i 0 = some (.int .i64 z.1) := by simp [cellD, A1_get h]
theorem A1_at1 {l : List Atom} {i : Nat} {z : Atom} (h : l[i]? = some z) : cellD (A1 l) i 1 = some (.list 1 (I1 z.2)) := by simp [cellD, A1_get h]
def atomsOf : Rows → Option (List Atom)
  | [] => some []
  | [.int .i64 r, .list 1 xs] :: q => (ints xs).bind fun zs => (atomsOf q).bind fun l => some ((r, zs) :: l)
  | _ => none
theorem atomsOf_A1 (l : List Atom) : atomsOf (A1 l) = some l := by
  induction l with
  | nil => rfl
  | cons z l ih =>
    show ((ints (I1 z.2)).bind fun zs => (atomsOf (A1 l)).bind fun l => some ((z.1, zs) :: l)) = _
    rw [ih, ints_I1]
    rfl
theorem atomsOf_some : ∀ {xs : Rows} {l : List Atom}, atomsOf xs = some l → xs = A1 l
  | [], l, h => by cases h; rfl
  | [.int .i64 r, .list 1 xs] :: q, l, h => by
    unfold atomsOf at h
    obtain ⟨zs, h1, h⟩ := Option.bind_eq_some_iff.1 h
    obtain ⟨l', h2, h⟩ := Option.bind_eq_some_iff.1 h
    cases h
    rw [atomsOf_some h2, ints_some h1]
    rfl
def atomArg (g : Nat) : Args → Option (Nat × List Atom)
  | [.var 0 0, .d (.int .i64 e), .d (.list 2 xs), .d (.fn g' [])] => cond (Nat.beq g' g) ((atomsOf xs).bind fun l => cond (Nat.ble l.length 1099511627776 && l.all fun z => Nat.ble z.2.length 1099511627776) (some (e.toNat, l)) none) none
  | _ => none
def sortAP (g : Nat) (args : Args) : Option Res := (atomArg g args).bind fun p => some [(false, [.row p.1 2 (A1 (sortAtoms p.2))])]
def compAP (g : Nat) (args : Args) : Option Res := (atomArg g args).bind fun p => some [(false, [.row p.1 2 (A1 (Lib.compact p.2))]), (true, [])]
theorem atomArg_isRaw {g : Nat} {args : Args} {p : Nat × List Atom} (h : atomArg g args = some p) : ∃ e xs, args = [.var 0 0, .d (.int .i64 e), .d (.list 2 xs), .d (.fn g [])] := by
  unfold atomArg at h
  split at h
  · rename_i e xs g'
    cases hb : Nat.beq g' g with
    | false => rw [hb] at h; cases h
    | true => exact ⟨e, xs, by rw [Nat.eq_of_beq_eq_true hb]⟩
  · cases h
theorem atomArg_some {g : Nat} {k : IntKind} {e : Int} {sz : Nat} {xs : Rows} {rest : Args} {p : Nat × List Atom} (h : atomArg g (rawTag :: .d (.int k e) :: .d (.list sz xs) :: rest) = some p) : sz = 2 ∧ rest = [.d (.fn g [])] ∧ xs = A1 p.2 ∧ p.1 = e.toNat ∧ p.2.length ≤ 1099511627776 ∧ ∀ z ∈ p.2, z.2.length ≤ 1099511627776 := by
  obtain ⟨e1, xs1, heq⟩ := atomArg_isRaw h
  simp only [rawTag, List.cons.injEq, AV.d.injEq, D.int.injEq, D.list.injEq, true_and] at heq
  obtain ⟨⟨rfl, rfl⟩, ⟨rfl, rfl⟩, rfl⟩ := heq
  simp only [atomArg, rawTag, show Nat.beq g g = true from Nat.beq_refl g, cond_true] at h
  obtain ⟨l, hl, h⟩ := Option.bind_eq_some_iff.1 h
  cases hb : (Nat.ble l.length 1099511627776 && l.all fun z => Nat.ble z.2.length 1099511627776) with
  | false => rw [hb] at h; cases h
  | true =>
    rw [hb] at h
    cases h
    rw [Bool.and_eq_true, List.all_eq_true] at hb
    exact ⟨rfl, rfl, atomsOf_some hl, rfl, Nat.le_of_ble_eq_true hb.1, fun z hz => Nat.le_of_ble_eq_true (hb.2 z hz)⟩
structure HdA (w : World) (S : Nat → Prop) where
  r : Int
  v : Value
  l : List Int
  h : RI w S v l
  b : l.length ≤ 1099511627776
section
variable {w : World} {S : Nat → Prop}
def encA (h : HdA w S) : List Value := [.int .i64 h.r, h.v]
def lstA (h : HdA w S) : Int × List Int := (h.r, h.l)
def zeroA (w : World) (S : Nat → Prop) : HdA w S := ⟨0, .slice none 0 0, [], ⟨none, 0, rfl, Nat.le_refl _, fun i z h => by simp at h⟩, by simp⟩
instance : Inhabited (HdA w S) := ⟨zeroA w S⟩
theorem encA_zero : encA (zeroA w S) = [.int .i64 0, .slice none 0 0] := rfl
theorem encA_len (x : HdA w S) : (encA x).length = 2 := rfl
theorem encA_one (x : HdA w S) : ∀ v ∈ encA x, v.oneCell' = true := by
  obtain ⟨r, v, l, ⟨A, c, rfl, _⟩, _⟩ := x
  intro v hv
  simp only [encA, List.mem_cons, List.not_mem_nil, or_false] at hv
  rcases hv with rfl | rfl <;> rfl
def cmpHA (x y : HdA w S) : Int := cmpA (lstA x) (lstA y)
theorem swoHA : SWO (ltOf (cmpHA (w := w) (S := S))) := ⟨fun x => swoA.irrefl _, fun x y z h1 h2 => swoA.trans _ _ _ h1 h2, fun x y z h1 h2 => swoA.ntrans _ _ _ h1 h2⟩
end
theorem sortWorldK_id {w : World} {S : Nat → Prop} (blk m : Nat) (dk : Array (HdA w S)) (os : Array Obj) : sortWorldK encA 2 w blk 0 m dk os = sortWorld id w blk 0 m (flatK encA 2 dk) os := rfl
/-- what the shelf promises of slices.SortFunc at rows of facts -/
structure SortAC (P : Program) (f g : FuncId) : Prop where
  known : Known P f
  run : ∀ (w : World) (S : Nat → Prop) (blk cap : Nat) (d : Array (HdA w S)), (∀ k, S k → k < w.heap.size) → ¬ S blk → HoldsK encA 2 w blk 0 d → blk < w.heap.size → d.size < 4611686018427387904 →
    Calls P f #[.slice (some ⟨blk, 0, none⟩) d.size cap, .func (.func g) #[] #[]] w fun e w' => e = .returned (.tuple #[]) ∧ ∃ (d' : Array (HdA w S)) (n : Nat) (os : Array Obj), PermIn 0 d.size d d' ∧ SortedIn (ltOf cmpHA) 0 d.size d' ∧ w' = sortWorldK encA 2 w blk 0 n d' os
  nil : ∀ (A : Option Addr) (w : World), Calls P f #[.slice A 0 0, .func (.func g) #[] #[]] w fun e w' => e = .returned (.tuple #[]) ∧ Below w.heap.size w w'
/-- what a walk shows of slices.CompactFunc there -/
structure CompAC (P : Program) (f g : FuncId) : Prop where
  known : Known P f
  run : ∀ (w : World) (S : Nat → Prop) (blk cap : Nat) (d : Array (HdA w S)), (∀ k, S k → k < w.heap.size) → ¬ S blk → HoldsK encA 2 w blk 0 d → blk < w.heap.size → d.size < 4611686018427387904 → d.size ≤ cap →
    Calls P f #[.slice (some ⟨blk, 0, none⟩) d.size cap, .func (.func g) #[] #[]] w fun e w' => ∃ (dk : Array (HdA w S)) (kk n : Nat) (os : Array Obj), e = .returned (.slice (some ⟨blk, 0, none⟩) kk cap) ∧ dk.size = d.size ∧ w' = sortWorldK encA 2 w blk 0 n dk os ∧ kk ≤ d.size ∧ (dk.toList.take kk).map lstA = Lib.compact (d.toList.map lstA)
  nil : ∀ (A : Option Addr) (cap : Nat) (w : World), Calls P f #[.slice A 0 cap, .func (.func g) #[] #[]] w fun e w' => e = .returned (.slice A 0 cap) ∧ w' = w
theorem mkA {w : World} {S : Nat → Prop} {cur : Array Value} : ∀ (l : List Atom) (o : Nat), (∀ i z, l[i]? = some z → ∃ v, cur[(o + i) * 2]? = some (.int .i64 z.1) ∧ cur[(o + i) * 2 + 1]? = some v ∧ RI w S v z.2 ∧ z.2.length ≤ 1099511627776) → ∃ d : List (HdA w S), d.map lstA = l ∧ ∀ j x, d[j]? = some x → cur[(o + j) * 2]? = some (.int .i64 x.r) ∧ cur[(o + j) * 2 + 1]? = some x.v
  | [], o, _ => ⟨[], rfl, fun j x h => by simp at h⟩
  | z :: l, o, h => by
    obtain ⟨d, h1, h2⟩ := mkA l (o + 1) fun i zs hz => by
      have := h (i + 1) zs (by simpa using hz)
      rwa [show o + (i + 1) = o + 1 + i by omega] at this
    obtain ⟨v, hv0, hv, hr, hzb⟩ := h 0 z rfl
    refine ⟨(⟨z.1, v, z.2, hr, hzb⟩ : HdA w S) :: d, by rw [List.map_cons, h1]; rfl, fun j x hx => ?_⟩
    cases j with
    | zero => cases hx; exact ⟨hv0, hv⟩
    | succ j => rw [show o + (j + 1) = o + 1 + j by omega]; exact h2 j x (by simpa using hx)
theorem RD.int_eq {w : World} {S T : Nat → Prop} {v : Value} {z : Int} (h : RD w S T v (.int .i64 z)) : v = .int .i64 z := by cases h; rfl
section
variable {P : Program} {G : Gd} {w : World} {S T : Nat → Prop} {b e cap : Nat} {l : List Atom} {u : Value} {fs g : FuncId}
/-- the row taken apart -/
theorem takeA {cur : Array Value} {fr : Nat × Nat} (hc : w.heap[b]? = some (.cells cur e fr)) (hlz : ∀ z ∈ l, z.2.length ≤ 1099511627776) (h6 : ∀ i c x, cellD (A1 l) i c = some x → x.isFn = false ∧ ∃ v, cur[i * 2 + c]? = some v ∧ RD w S T v x) :
    ∃ d : Array (HdA w S), d.toList.map lstA = l ∧ d.size = l.length ∧ (fr = (0, 0) → HoldsK encA 2 w b 0 d) := by
  obtain ⟨dl, hd1, hdl⟩ := mkA (w := w) (S := S) (cur := cur) l 0 fun i z hz => by
    obtain ⟨_, v0, hv0, hrd0⟩ := h6 i 0 _ (A1_at0 hz)
    obtain ⟨_, v, hv, hrd⟩ := h6 i 1 _ (A1_at1 hz)
    rw [RD.int_eq hrd0] at hv0
    rw [Nat.zero_add]
    exact ⟨v, hv0, hv, RD.ri hrd, hlz _ (List.mem_of_getElem? hz)⟩
  refine ⟨dl.toArray, by simpa using hd1, by rw [← hd1]; simp, fun hfr => ?_⟩
  subst hfr
  intro t ht
  rw [size_flatK] at ht
  have hts : t / 2 < dl.toArray.size := by omega
  have hx := hdl (t / 2) _ (by rw [List.getElem?_eq_getElem (by simpa using hts)])
  rw [Nat.zero_add] at hx
  refine ⟨?_, by simp [World.frozen?, hc]⟩
  simp only [World.cell?, hc, Option.isSome_none, Bool.false_eq_true, if_false, Nat.zero_add, id]
  rw [get_flatK _ _ _ _ ht, getElem!_pos _ (t / 2) hts]
  rcases Nat.mod_two_eq_zero_or_one t with h | h
  · rw [h]
    have e : t = t / 2 * 2 := by omega
    have h1 := hx.1
    rw [← e] at h1
    rw [h1]
    simp [encA]
  · rw [h]
    have e : t = t / 2 * 2 + 1 := by omega
    have h1 := hx.2
    rw [← e] at h1
    rw [h1]
    simp [encA]
/-- the row put back -/
theorem putA {cur : Array Value} (hS : ∀ k, S k → k < w.heap.size) (hnS : ¬ S b) (hc : w.heap[b]? = some (.cells cur e (0, 0))) (dk : Array (HdA w S)) (n : Nat) (os : Array Obj) (kk : Nat) (hcs : dk.size * 2 ≤ cur.size) (hkk : kk ≤ dk.size) :
    ∀ i c x, cellD (A1 ((dk.toList.take kk).map lstA)) i c = some x → x.isFn = false ∧ ∃ v, (putCells id 0 (flatK encA 2 dk) cur)[i * 2 + c]? = some v ∧ RD (sortWorldK encA 2 w b 0 n dk os) S T v x := by
  intro i c x hx
  have hst := stabS (enc := id) (n := n) (os := os) (flatK encA 2 dk) hS hnS
  obtain ⟨z, hz, hcx⟩ := A1_cell hx
  rw [List.getElem?_map, Option.map_eq_some_iff] at hz
  obtain ⟨h, hh, rfl⟩ := hz
  have hi0 := (List.getElem?_eq_some_iff.1 hh).1
  rw [List.length_take, Array.length_toList] at hi0
  have hi : i < dk.size := by omega
  rw [List.getElem?_take_of_lt (by omega), Array.getElem?_toList, Array.getElem?_eq_getElem hi, Option.some.injEq] at hh
  have hcell : ∀ c, c < 2 → (putCells id 0 (flatK encA 2 dk) cur)[i * 2 + c]? = some ((encA dk[i])[c]!) := by
    intro c hc2
    have hic : i * 2 + c < cur.size := by omega
    have hif : i * 2 + c < dk.size * 2 := by omega
    have hgf := get_flatK encA 2 dk (i * 2 + c) hif
    rw [show (i * 2 + c) / 2 = i by omega, show (i * 2 + c) % 2 = c by omega, getElem!_pos dk i hi] at hgf
    simp only [putCells, Array.getElem?_mapIdx]
    rw [Array.getElem?_eq_getElem hic]
    simp only [Option.map_some, size_flatK, Nat.sub_zero, Nat.zero_le, Nat.zero_add, true_and, hif, if_true, id, hgf]
  rcases hcx with ⟨rfl, rfl⟩ | ⟨rfl, rfl⟩
  · refine ⟨rfl, _, hcell 0 (by omega), ?_⟩
    rw [← hh]
    exact .int _ _
  · refine ⟨rfl, _, hcell 1 (by omega), ?_⟩
    rw [← hh]
    exact RI.rd (RI.stab dk[i].h hst)
theorem turnA {cur : Array Value} (hc : w.heap[b]? = some (.cells cur e (0, 0))) (dk : Array (HdA w S)) (n : Nat) (os : Array Obj) : Turned w (some b) e (sortWorldK encA 2 w b 0 n dk os) := by
  have hblk : b < w.heap.size := lt_of_blk hc
  have hnew := heapS (enc := id) (n := n) (os := os) (flatK encA 2 dk) hc
  refine ⟨cur, _, hc, (by simp [putCells] : (putCells id 0 (flatK encA 2 dk) cur).size = cur.size), rfl, rfl, rfl, by simp [sortWorldK_id, sortWorld, grow, putRow, mapBlock, Sort.ahead, setBlk], fun k hk => ?_⟩
  have hk : k < w.heap.size := by simpa using hk
  by_cases hkb : k = b
  · subst hkb
    rw [setBlk_at hblk]
    exact hnew
  · rw [setBlk_ne hkb]
    exact heapO _ hk hkb
theorem sortA_sound (h : SortAC P fs g) {args : Args} {r : Res} (hr : sortAP g args = some r) : PlainC P G fs args r ∧ ∀ k e sz xs rest, args = rawTag :: .d (.int k e) :: .d (.list sz xs) :: rest → ∀ e' : Nat, e = e' → RawC P fs e' sz xs rest r := by
  obtain ⟨⟨e0, l⟩, hra, hr⟩ := Option.bind_eq_some_iff.1 hr
  cases hr
  refine ⟨?_, fun k e sz xs rest hargs e' he => ?_⟩
  · obtain ⟨_, _, rfl⟩ := atomArg_isRaw hra
    exact plain_raw'
  · subst hargs
    obtain ⟨rfl, rfl, rfl, h4, hlen, hlz⟩ := atomArg_some hra
    simp only at h4 hlen hlz
    subst he h4
    intro w S T mo u vs hS hT hrow hl
    obtain rfl := fn_arg hl
    simp only [Int.toNat_natCast]
    have hsl := sortAtoms_len l
    cases mo with
    | none =>
      obtain ⟨_, ⟨_, A, rfl⟩, hn⟩ := hrow
      have hz : l = [] := by simpa [A1] using hn
      subst hz
      refine (h.nil A w).mono fun ex w' ⟨h1, h2⟩ => ⟨_, h1, h2, fun _ => ⟨by simp [A1, sortAtoms], rfl, ?_⟩⟩
      refine ⟨fun i x hx => by simp [A1, sortAtoms] at hx, ⟨by simp [A1, sortAtoms], A, rfl⟩, by simp [A1, sortAtoms]⟩
    | some b =>
      obtain ⟨_, ⟨cap, cur, rfl, hc, h1, h2, h3⟩, _, hnS, cur', hc', h5, h6⟩ := hrow
      rw [A1_len] at *
      rw [hc] at hc'
      cases hc'
      have hblk : b < w.heap.size := lt_of_blk hc
      obtain ⟨d, hd1, hds, hd2⟩ := takeA (S := S) hc hlz h6
      have hcall := h.run w S b cap d hS hnS (hd2 rfl) hblk (by omega)
      rw [hds] at hcall
      refine hcall.mono fun ex w' ⟨k1, d', n, os, ⟨p1, _, p3⟩, k3, k4⟩ => ?_
      subst k4
      have hds' : d'.size = l.length := by rw [p1, hds]
      have hext : ∀ (a : Array (HdA w S)) (m : Nat), a.size = m → a.extract 0 m = a := fun a m hm => by subst hm; exact Array.extract_size
      rw [hext d' _ hds', hext d _ hds] at p3
      have hys : d'.toList.map lstA = sortAtoms l := by
        refine srtA_unique (by rw [← hd1]; exact p3.map _) ?_
        rw [List.pairwise_map, List.pairwise_iff_getElem]
        intro i j hi hj hij
        have hi' : i < d'.size := by simpa using hi
        have hj' : j < d'.size := by simpa using hj
        have := k3 i j (Nat.zero_le _) hij (by omega)
        rw [getElem!_pos d' j hj', getElem!_pos d' i hi'] at this
        exact this
      have hnew : (sortWorldK encA 2 w b 0 n d' os).heap[b]? = _ := heapS (enc := id) (n := n) (os := os) (flatK encA 2 d') hc
      have hcsz : (putCells id 0 (flatK encA 2 d') cur).size = cur.size := by simp [putCells]
      have h5' : l.length * 2 ≤ cur.size := h5
      have hput := putA (T := T) hS hnS hc d' n os d'.size (by omega) (Nat.le_refl _)
      rw [show d'.toList.take d'.size = d'.toList by rw [show d'.size = d'.toList.length by simp, List.take_length], hys] at hput
      refine ⟨_, k1, turnA hc d' n os, fun _ => ⟨by rw [A1_len, A1_len, hsl], rfl, A1_rows _, ?_, Nat.zero_le _, hnS, _, hnew, by rw [A1_len, hsl, hcsz]; exact h5', hput⟩⟩
      rw [A1_len, hsl]
      exact ⟨cap, _, rfl, hnew, h1, h2, by rw [hcsz]; exact h3⟩
theorem compactA_len (zs : List Atom) : (Lib.compact zs).length ≤ zs.length := by
  unfold Lib.compact Lib.compactUpTo
  rw [List.length_map]
  exact Nat.le_trans (List.length_filter_le _ _) (by simp)
theorem compA_sound (h : CompAC P fs g) {args : Args} {r : Res} (hr : compAP g args = some r) : PlainC P G fs args r ∧ ∀ k e sz xs rest, args = rawTag :: .d (.int k e) :: .d (.list sz xs) :: rest → ∀ e' : Nat, e = e' → RawC P fs e' sz xs rest r := by
  obtain ⟨⟨e0, l⟩, hra, hr⟩ := Option.bind_eq_some_iff.1 hr
  cases hr
  refine ⟨?_, fun k e sz xs rest hargs e' he => ?_⟩
  · obtain ⟨_, _, rfl⟩ := atomArg_isRaw hra
    exact plain_raw'
  · subst hargs
    obtain ⟨rfl, rfl, rfl, h4, hlen, hlz⟩ := atomArg_some hra
    simp only at h4 hlen hlz
    subst he h4
    intro w S T mo u vs hS hT hrow hl
    obtain rfl := fn_arg hl
    simp only [Int.toNat_natCast]
    have hsl := compactA_len l
    cases mo with
    | none =>
      obtain ⟨_, ⟨_, A, rfl⟩, hn⟩ := hrow
      have hz : l = [] := by simpa [A1] using hn
      subst hz
      refine (h.nil A 0 w).mono fun ex w' ⟨h1, h2⟩ => ⟨_, h1, by subst h2; exact Below.refl _ _, fun _ => ?_⟩
      exact ⟨fun i x hx => by simp [A1, Lib.compact, Lib.compactUpTo] at hx, ⟨by simp [A1, Lib.compact, Lib.compactUpTo], A, rfl⟩, by simp [A1, Lib.compact, Lib.compactUpTo]⟩
    | some b =>
      obtain ⟨_, ⟨cap, cur, rfl, hc, h1, h2, h3⟩, _, hnS, cur', hc', h5, h6⟩ := hrow
      rw [A1_len] at *
      rw [hc] at hc'
      cases hc'
      have hblk : b < w.heap.size := lt_of_blk hc
      obtain ⟨d, hd1, hds, hd2⟩ := takeA (S := S) hc hlz h6
      have hcall := h.run w S b cap d hS hnS (hd2 rfl) hblk (by omega) (by have h1 : l.length ≤ cap := h1; omega)
      rw [hds] at hcall
      refine hcall.mono fun ex w' ⟨dk, kk, n, os, k1, k2, k3, k4, k5⟩ => ?_
      rw [hd1] at k5
      subst k3
      have hnew : (sortWorldK encA 2 w b 0 n dk os).heap[b]? = _ := heapS (enc := id) (n := n) (os := os) (flatK encA 2 dk) hc
      have hcsz : (putCells id 0 (flatK encA 2 dk) cur).size = cur.size := by simp [putCells]
      have hkk : kk = (Lib.compact l).length := by
        rw [← k5]
        simp only [List.length_map, List.length_take, Array.length_toList]
        omega
      have h5' : l.length * 2 ≤ cur.size := h5
      have hput := putA (T := T) hS hnS hc dk n os kk (by omega) (by omega)
      rw [k5] at hput
      refine ⟨_, k1, turnA hc dk n os, fun _ => ⟨A1_rows _, ?_, Nat.zero_le _, hnS, _, hnew, by rw [A1_len, hcsz]; omega, hput⟩⟩
      rw [A1_len, hkk]
      have h1 : l.length ≤ cap := h1
      exact ⟨cap, _, rfl, hnew, by omega, h2, by rw [hcsz]; exact h3⟩
theorem SortAC.ok (h : SortAC P fs g) : PrimOk P G fs (sortAP g) := ⟨h.known, (fun args r hr => (sortA_sound h hr).1), (fun k e sz xs rest r hr e' he => (sortA_sound (G := noG) h hr).2 k e sz xs rest rfl e' he)⟩
theorem CompAC.ok (h : CompAC P fs g) : PrimOk P G fs (compAP g) := ⟨h.known, (fun args r hr => (compA_sound h hr).1), (fun k e sz xs rest r hr e' he => (compA_sound (G := noG) h hr).2 k e sz xs rest rfl e' he)⟩
end
end Ovi

/-! Uqa -/
namespace Ovi
open Go Go.Proofs Go.Sort Go.Lib

/-! ### facts in strict order -/
def SSA (l : List Atom) : Prop := l.Pairwise fun x y => ltA x y = true
theorem ltA_tri (x y : Atom) : ltA x y = true ∨ x = y ∨ ltA y x = true := by
  cases h1 : ltA x y with
  | true => exact .inl rfl
  | false =>
    cases h2 : ltA y x with
    | true => exact .inr (.inr rfl)
    | false => exact .inr (.inl (antiA x y h1 h2))
theorem ltA_ne {x y : Atom} (h : ltA x y = true) : x ≠ y := by
  rintro rfl
  rw [swoA.irrefl] at h; cases h
theorem ltA_asymm {x y : Atom} (h : ltA x y = true) : ltA y x = false := by
  cases h' : ltA y x with
  | false => rfl
  | true => have := swoA.trans _ _ _ h h'; rw [swoA.irrefl] at this; cases this
theorem ssA_eq : ∀ {a b : List Atom}, SSA a → SSA b → (∀ z, z ∈ a ↔ z ∈ b) → a = b
  | [], [], _, _, _ => rfl
  | [], y :: b, _, _, h => by have := (h y).2 List.mem_cons_self; cases this
  | x :: a, [], _, _, h => by have := (h x).1 List.mem_cons_self; cases this
  | x :: a, y :: b, ha, hb, h => by
    have ha' := List.pairwise_cons.1 ha
    have hb' := List.pairwise_cons.1 hb
    have hxy : x = y := by
      rcases List.mem_cons.1 ((h x).1 List.mem_cons_self) with e | hx
      · exact e
      · rcases List.mem_cons.1 ((h y).2 List.mem_cons_self) with e | hy
        · exact e.symm
        · have h1 := hb'.1 x hx
          have h2 := ha'.1 y hy
          rw [ltA_asymm h1] at h2; cases h2
    subst hxy
    rw [ssA_eq ha'.2 hb'.2 fun z => ?_]
    constructor
    · intro hz
      rcases List.mem_cons.1 ((h z).1 (List.mem_cons_of_mem _ hz)) with e | h'
      · subst e; exact absurd rfl (ltA_ne (ha'.1 z hz))
      · exact h'
    · intro hz
      rcases List.mem_cons.1 ((h z).2 (List.mem_cons_of_mem _ hz)) with e | h'
      · subst e; exact absurd rfl (ltA_ne (hb'.1 z hz))
      · exact h'
theorem compact_pairwise {α : Type} [DecidableEq α] [Inhabited α] (R : α → α → Prop) (d : List α) (hR : ∀ i j, i ≤ j → j < d.length → d.toArray[i]! ≠ d.toArray[j]! → R d.toArray[i]! d.toArray[j]!) (hmid : ∀ i j m : Nat, i ≤ j → j ≤ m → m < d.length → d.toArray[i]! = d.toArray[m]! → d.toArray[j]! = d.toArray[m]!) : (Lib.compact d).Pairwise R := by
  have key : ∀ m, m ≤ d.length → (Lib.compactUpTo d.toArray m).Pairwise R ∧ ∀ x ∈ Lib.compactUpTo d.toArray m, ∃ i, i < m ∧ x = d.toArray[i]! := by
    intro m
    induction m with
    | zero => intro _; exact ⟨by simp [Lib.compactUpTo], fun x hx => by simp [Lib.compactUpTo] at hx⟩
    | succ m ih =>
      intro hm
      obtain ⟨h1, h2⟩ := ih (by omega)
      rw [Lib.compactUpTo_succ]
      by_cases hk : Lib.keeps d.toArray m = true
      · rw [if_pos hk]
        refine ⟨List.pairwise_append.2 ⟨h1, by simp, fun x hx y hy => ?_⟩, fun x hx => ?_⟩
        · obtain ⟨i, hi, rfl⟩ := h2 x hx
          obtain rfl := List.mem_singleton.1 hy
          refine hR i m (by omega) (by omega) fun he => ?_
          simp only [Lib.keeps, decide_eq_true_eq] at hk
          rcases hk with h0 | h0
          · omega
          · exact h0 (hmid i (m - 1) m (by omega) (by omega) (by omega) he).symm
        · rcases List.mem_append.1 hx with hx | hx
          · obtain ⟨i, hi, e⟩ := h2 x hx
            exact ⟨i, by omega, e⟩
          · exact ⟨m, by omega, List.mem_singleton.1 hx⟩
      · rw [if_neg hk]
        refine ⟨by simpa using h1, fun x hx => ?_⟩
        obtain ⟨i, hi, e⟩ := h2 x (by simpa using hx)
        exact ⟨i, by omega, e⟩
  have := key d.length (Nat.le_refl _)
  exact this.1
theorem ssA_compact (l : List Atom) : SSA (Lib.compact (sortAtoms l)) := by
  have hs := sortAtoms_srt l
  generalize sortAtoms l = d at hs
  have hle : ∀ i j, i ≤ j → j < d.length → ltA d.toArray[j]! d.toArray[i]! = false := by
    intro i j hij hj
    rw [getElem!_pos _ i (by simp; omega), getElem!_pos _ j (by simp; omega)]
    simp only [List.getElem_toArray]
    rcases Nat.lt_or_eq_of_le hij with h | rfl
    · exact List.pairwise_iff_getElem.1 hs i j (by omega) hj h
    · exact swoA.irrefl _
  refine compact_pairwise _ d (fun i j hij hj hne => ?_) (fun i j m h1 h2 h3 he => ?_)
  · rcases ltA_tri d.toArray[i]! d.toArray[j]! with h | h | h
    · exact h
    · exact absurd h hne
    · rw [hle i j hij hj] at h; cases h
  · have a := hle i j h1 (by omega)
    have b := hle j m h2 h3
    rw [he] at a
    exact antiA _ _ b a |>.symm ▸ rfl
theorem mem_compactA (zs : List Atom) (z : Atom) : z ∈ Lib.compact zs ↔ z ∈ zs := by
  unfold Lib.compact Lib.compactUpTo
  simp only [List.mem_map, List.mem_filter, List.mem_range]
  constructor
  · rintro ⟨i, ⟨hi, _⟩, rfl⟩
    rw [getElem!_pos _ i (by simpa using hi)]
    simp
  · intro h
    obtain ⟨i, hi, e⟩ := List.mem_iff_getElem.1 h
    have key : ∀ i, i < zs.length → ∃ j, (j < zs.length ∧ Lib.keeps zs.toArray j = true) ∧ zs.toArray[j]! = zs.toArray[i]! := by
      intro i
      induction i with
      | zero => intro h0; exact ⟨0, ⟨h0, by simp [Lib.keeps]⟩, rfl⟩
      | succ i ih =>
        intro h0
        by_cases hk : Lib.keeps zs.toArray (i + 1) = true
        · exact ⟨i + 1, ⟨h0, hk⟩, rfl⟩
        · have : zs.toArray[i + 1]! = zs.toArray[i]! := by
            simp only [Lib.keeps, decide_eq_true_eq, not_or, Nat.add_sub_cancel, Decidable.not_not] at hk
            exact hk.2
          obtain ⟨j, h1, h2⟩ := ih (by omega)
          exact ⟨j, h1, by rw [h2, this]⟩
    obtain ⟨j, h1, h2⟩ := key i hi
    refine ⟨j, h1, ?_⟩
    rw [h2, getElem!_pos _ i (by simpa using hi)]
    simpa using e
/-- one more fact, in its place -/
theorem ssA_ins {l : List Atom} {f : Atom} {k : Nat} (hs : SSA l) (hf : f ∉ l) (hlt : ∀ j y, j < k → l[j]? = some y → ltA y f = true) (hge : ∀ y, l[k]? = some y → ltA y f = false) : SSA (l.take k ++ f :: l.drop k) := by
  have hgt : ∀ y ∈ l.drop k, ltA f y = true := by
    intro y hy
    obtain ⟨j, hj⟩ := List.mem_iff_getElem?.1 hy
    rw [List.getElem?_drop] at hj
    have hyl := List.mem_of_getElem? hj
    have hkl : k < l.length := by have := (List.getElem?_eq_some_iff.1 hj).1; omega
    have h0 := hge l[k] (List.getElem?_eq_getElem hkl)
    have hk : ltA f l[k] = true := by
      rcases ltA_tri l[k] f with h | h | h
      · rw [h] at h0; cases h0
      · exact absurd (h ▸ List.getElem_mem hkl) hf
      · exact h
    cases j with
    | zero =>
      rw [Nat.add_zero, List.getElem?_eq_getElem hkl] at hj
      cases hj; exact hk
    | succ j =>
      have hjl := (List.getElem?_eq_some_iff.1 hj).1
      have e := (List.getElem?_eq_some_iff.1 hj).2
      have := List.pairwise_iff_getElem.1 hs k (k + (j + 1)) hkl hjl (by omega)
      rw [e] at this
      exact swoA.trans _ _ _ hk this
  refine List.pairwise_append.2 ⟨List.Pairwise.sublist (List.take_sublist k l) hs, List.pairwise_cons.2 ⟨hgt, List.Pairwise.sublist (List.drop_sublist k l) hs⟩, fun x hx y hy => ?_⟩
  obtain ⟨j, hj⟩ := List.mem_iff_getElem?.1 hx
  have hjk : j < k := by
    have := (List.getElem?_eq_some_iff.1 hj).1
    rw [List.length_take] at this; omega
  rw [List.getElem?_take_of_lt hjk] at hj
  have hxf := hlt j x hjk hj
  rcases List.mem_cons.1 hy with rfl | hy
  · exact hxf
  · exact swoA.trans _ _ _ hxf (hgt y hy)
theorem mem_ins {α : Type} {l : List α} {f z : α} (k : Nat) : z ∈ l.take k ++ f :: l.drop k ↔ z ∈ l ∨ z = f := by
  rw [List.mem_append, List.mem_cons]
  have : z ∈ l ↔ z ∈ l.take k ∨ z ∈ l.drop k := by rw [← List.mem_append, List.take_append_drop]
  rw [this]
  constructor
  · rintro (h | h | h)
    · exact .inl (.inl h)
    · exact .inr h
    · exact .inl (.inr h)
  · rintro ((h | h) | h)
    · exact .inl h
    · exact .inr (.inr h)
    · exact .inr (.inl h)
end Ovi

/-! Clk -/
namespace Ovi
open Go Go.Proofs Go.RowKit Go.Lib

/-! ### slices.Clone of a row that is not empty, whatever its elements -/
structure CloneKC (P : Program) (f : FuncId) (e sz : Nat) : Prop where
  known : Known P f
  pos : 0 < sz
  run : ∀ (b off n c : Nat) (news : List Value) (w : World), news.length = n * sz → n ≤ 1099511627776 → (∀ j u, news[j]? = some u → w.cell? ⟨b, off + j, none⟩ = some u) → (∀ u ∈ news, u.oneCell' = true) →
    Calls P f #[.slice (some ⟨b, off, none⟩) n c] w fun ex w' => ∃ v', ex = .returned v' ∧ w'.ownsRow w.heap.size e sz v' n news ∧ Below w.heap.size w w'
def cloneKP (e sz : Nat) : Args → Option Res
  | [.d (.list sz' xs)] => cond (Nat.beq sz' sz && (Nat.ble 1 xs.length && Nat.ble xs.length 1099511627776)) (some [(false, [.row e sz xs])]) none
  | _ => none
theorem RD.one {w : World} {S T : Nat → Prop} {v : Value} {x : D} (h : RD w S T v x) : v.oneCell' = true := by cases h <;> rfl
theorem cloneK_sound {P : Program} {G : Gd} {f : FuncId} {e sz : Nat} (h : CloneKC P f e sz) {args : Args} {r : Res} (hr : cloneKP e sz args = some r) : PlainC P G f args r ∧ isRaw args = false := by
  unfold cloneKP at hr
  split at hr
  · rename_i sz' xs
    cases hb : (Nat.beq sz' sz && (Nat.ble 1 xs.length && Nat.ble xs.length 1099511627776)) with
    | false => rw [hb] at hr; cases hr
    | true =>
      rw [hb] at hr
      cases hr
      rw [Bool.and_eq_true, Bool.and_eq_true] at hb
      obtain ⟨hb0, hb1, hb2⟩ := hb
      obtain rfl := Nat.eq_of_beq_eq_true hb0
      have hb1 := Nat.le_of_ble_eq_true hb1
      have hb2 := Nat.le_of_ble_eq_true hb2
      have hpos := h.pos
      refine ⟨?_, rfl⟩
      intro w S T vs hS hT hl _
      obtain ⟨u, hu, hrd⟩ := hl.2 0 _ rfl
      have hvs : vs = #[u] := by
        have h1 : vs.size = 1 := hl.1
        apply Array.ext_getElem?
        intro i
        cases i with
        | zero => rw [hu]; rfl
        | succ i => rw [Array.getElem?_eq_none (by omega), Array.getElem?_eq_none (by simp)]
      subst hvs
      have hrd : RD w S T u (.list sz' xs) := hrd
      cases hrd with
      | list A cap _ _ g h1 h3 h4 h5 h6 =>
        have hcd : ∀ i c, i < xs.length → c < sz' → ∃ x, cellD xs i c = some x := by
          intro i c hi hc
          have hl3 := h3 i _ (List.getElem?_eq_getElem hi)
          exact ⟨xs[i][c]'(by omega), by simp [cellD, hi, List.getElem?_eq_getElem (show c < (xs[i]).length by omega)]⟩
        obtain ⟨x0, hx0⟩ := hcd 0 0 hb1 hpos
        obtain ⟨ad, hA, hSad, hc0⟩ := h4 0 0 _ hx0
        subst hA
        obtain ⟨b, off, spot⟩ := ad
        have hspot : spot = none := by simpa [Addr.add] using World.cell?_spot hc0
        subst hspot
        have news : List Value := []
        clear news
        generalize hnews : ((List.range (xs.length * sz')).map fun t => g (t / sz') (t % sz')) = news
        have hnl : news.length = xs.length * sz' := by rw [← hnews]; simp
        have hget : ∀ t u, news[t]? = some u → t < xs.length * sz' ∧ u = g (t / sz') (t % sz') := by
          intro t u ht
          have hlt := (List.getElem?_eq_some_iff.1 ht).1
          rw [hnl] at hlt
          rw [← hnews] at ht
          simp [hlt] at ht
          exact ⟨hlt, ht.symm⟩
        have hdm : ∀ t, t < xs.length * sz' → t / sz' < xs.length ∧ t % sz' < sz' ∧ t / sz' * sz' + t % sz' = t := fun t ht =>
          ⟨(Nat.div_lt_iff_lt_mul hpos).2 ht, Nat.mod_lt _ hpos, by have := Nat.div_add_mod t sz'; rw [Nat.mul_comm] at this; exact this⟩
        refine (h.run b off xs.length cap news w hnl hb2 (fun t u ht => ?_) (fun u hu => ?_)).mono fun ex w' ⟨v, k1, k2, k3⟩ => ?_
        · obtain ⟨hlt, rfl⟩ := hget t u ht
          obtain ⟨d1, d2, d3⟩ := hdm t hlt
          obtain ⟨x, hx⟩ := hcd _ _ d1 d2
          obtain ⟨ad, e1, _, e3⟩ := h4 _ _ _ hx
          cases e1
          rw [d3, add_at] at e3
          exact e3
        · obtain ⟨t, ht⟩ := List.mem_iff_getElem?.1 hu
          obtain ⟨hlt, rfl⟩ := hget t u ht
          obtain ⟨d1, d2, d3⟩ := hdm t hlt
          obtain ⟨x, hx⟩ := hcd _ _ d1 d2
          exact (h5 _ _ _ hx).one
        · subst k1
          have hst : Stab S w w' := fun k hk => k3.block k (hS k hk)
          have htt : Stab T w w' := fun k hk => k3.block k (hT k hk)
          have hrow : ∃ mo, rowC w' S T w.heap.size mo e sz' xs v := by
            obtain ⟨_, k2⟩ := k2
            rcases k2 with ⟨rfl, h0⟩ | ⟨q, cap', cur, rfl, hb', hg, q1, q2, q3, q4⟩
            · omega
            · refine ⟨some q, h3, ⟨cap', cur, rfl, hg, q1, q2, q3⟩, hb', fun hh => by have := hS q hh; omega, cur, hg, ?_, fun i c x hx => ?_⟩
              · have := congrArg List.length q4
                rw [List.length_take, hnl] at this
                have hcl : cur.toList.length = cur.size := rfl
                omega
              · obtain ⟨row, hr1, hr2⟩ := cellD_lt hx
                have hi := (List.getElem?_eq_some_iff.1 hr1).1
                have hc := (List.getElem?_eq_some_iff.1 hr2).1
                rw [h3 _ _ hr1] at hc
                have hlt : i * sz' + c < xs.length * sz' := by
                  have := Nat.mul_le_mul_right sz' (show i + 1 ≤ xs.length from hi)
                  rw [Nat.add_mul, Nat.one_mul] at this
                  omega
                refine ⟨h6 _ _ _ hx, g i c, ?_, RD.mono hst htt (fun _ h => h) (fun _ h => h) (h5 _ _ _ hx)⟩
                have : (cur.toList.take (xs.length * sz'))[i * sz' + c]? = news[i * sz' + c]? := by rw [q4]
                rw [List.getElem?_take_of_lt hlt] at this
                rw [← Array.getElem?_toList, this, ← hnews]
                have e1 : (i * sz' + c) / sz' = i := by rw [Nat.mul_comm, Nat.mul_add_div hpos, Nat.div_eq_of_lt hc, Nat.add_zero]
                have e2 : (i * sz' + c) % sz' = c := by rw [Nat.mul_comm, Nat.mul_add_mod, Nat.mod_eq_of_lt hc]
                simp [hlt, e1, e2]
          obtain ⟨mo, hrow⟩ := hrow
          refine ⟨v, S, fun _ _ => mo, rfl, k3, fun _ h => h, fun _ h => .inl h, ⟨[v], rfl, rfl, fun i x hx => ?_⟩, fun i j i' j' b h1 h2 _ _ => ?_⟩
          · cases i with
            | zero => cases hx; exact ⟨v, rfl, _, rfl, hrow⟩
            | succ i => simp at hx
          · have key : ∀ i j, isRow (leafAt [(false, [.row e sz' xs])] i j) = true → i = 0 ∧ j = 0 := by
              intro i j hij
              cases i with
              | zero =>
                cases j with
                | zero => exact ⟨rfl, rfl⟩
                | succ j => simp [leafAt, isRow] at hij
              | succ i => simp [leafAt, isRow] at hij
            obtain ⟨rfl, rfl⟩ := key i j h1
            obtain ⟨rfl, rfl⟩ := key i' j' h2
            exact ⟨rfl, rfl⟩
  · cases hr
theorem CloneKC.ok {P : Program} {G : Gd} {f : FuncId} {e sz : Nat} (h : CloneKC P f e sz) : PrimOk P G f (cloneKP e sz) := ⟨h.known, (fun args r hr => (cloneK_sound h hr).1), (fun k e0 sz0 xs rest r hr e' he => by have := (cloneK_sound (G := noG) h hr).2; cases this)⟩
end Ovi

/-! Clz -/
namespace Ovi
open Go Go.Proofs Go.RowKit Go.Lib Go.Shelf
section
variable {P : Program} {ρ : Ren}
set_option maxHeartbeats 2000000 in
set_option maxRecDepth 100000 in
/-- slices.Clone of no elements, whatever the address -/
theorem cloneE_zero (L : SlLaysE0.n41 P ρ) (i0 : TypeInfo) (z : Value) (size bytes : Nat) (hi : P.info? (ρ.t 23) = some i0) (hz0 : i0.zero = some z) (hz1 : i0.size = size) (hz2 : i0.bytes = bytes) (hzs : z.cells.size = size) (hsz : 0 < size)
    (z23 : ∀ w, (Go.sizeOf (ρ.t 23)).run P w = .ok size w) (a : Addr) (c : Nat) (w : World) :
    Calls P (ρ.f 41) #[.slice (some a) 0 c] w fun e w' => ∃ v', e = .returned v' ∧ w'.ownsRow w.heap.size (ρ.t 23) size v' 0 [] ∧ Below w.heap.size w w' := by
  have mixed := L.mixed; have t4 := L.t4; have a4 := L.a4; have z4 := L.z4; have v4 := L.v4; have t22 := L.t22; have a22 := L.a22; have z22 := L.z22; have v22 := L.v22
  have q22 : ∀ (w : World) (a : Option Addr) (n c n' c' : Nat), (Go.binOp .eql (ρ.t 22) (.slice a n c) (.slice none n' c')).run P w = .ok (.bool a.isNone) w := fun w a n c n' c' => Lib.run_eql_slice_nil w _ _ a n c n' c' L.t22
  have u22 : ∀ w, Sem.run P (underlying (ρ.t 22)) w = .ok (TypeDesc.slice (ρ.t 23)) w := run_underlying t22
  obtain ⟨_, _, FG⟩ := L.f41
  go_enter FG, SlBodyN.n41_ntmps ρ
  go_wp2_with (at_builtin; refine wpList_append_own _ rfl _ _ (ρ.t 22) rfl w.heap.size (ρ.t 23) i0 z size bytes t22 hi hz0 hz1 hz2 hzs hsz _ _ _ rfl (World.ownsRow_made w #[] 0 (Nat.le_refl _) (Nat.zero_le _) (by simp)) a 0 c [] rfl (by simp) (by intro j u hj; simp at hj) (by intro u hu; cases hu) (by unfold maxLen; omega) (by omega) (by simp) ?_)
  intro v' w1 hown hgrow hnil
  go_wp2
  go_ret
  refine ⟨v', rfl, by simpa using hown, ?_⟩
  exact ((Below.refl _ w).alloc (Nat.le_refl _) _).grown hgrow (by simp) (by intro k hk; simp [Value.ownBlock] at hk; omega)
end
/-- slices.Clone of a row, be it empty or not -/
structure CloneZC (P : Program) (f : FuncId) (e sz : Nat) : Prop where
  base : CloneKC P f e sz
  nil : ∀ (n c : Nat) (w : World), Calls P f #[.slice none n c] w fun ex w' => ex = .returned (.slice none 0 0) ∧ w' = w
  zero : ∀ (a : Addr) (c : Nat) (w : World), Calls P f #[.slice (some a) 0 c] w fun ex w' => ∃ v', ex = .returned v' ∧ w'.ownsRow w.heap.size e sz v' 0 [] ∧ Below w.heap.size w w'
def cloneZP (e sz : Nat) : Args → Option Res
  | [.d (.list sz' xs)] => cond (Nat.beq sz' sz && Nat.ble xs.length 1099511627776) (some [(false, [.row e sz xs])]) none
  | _ => none
theorem row_empty {w' : World} {S T : Nat → Prop} {B e sz : Nat} {v : Value} (h : w'.ownsRow B e sz v 0 []) (hS : ∀ k, S k → k < B) : ∃ mo, rowC w' S T B mo e sz [] v := by
  obtain ⟨_, h⟩ := h
  rcases h with ⟨rfl, _⟩ | ⟨g, cap, cur, rfl, hb, hg, h1, h2, h3, h4⟩
  · exact ⟨none, fun i x h => by simp at h, ⟨rfl, none, rfl⟩, rfl⟩
  · exact ⟨some g, fun i x h => by simp at h, ⟨cap, cur, rfl, hg, h1, h2, h3⟩, hb, fun hh => by have := hS g hh; omega, cur, hg, by simp, fun i c x h => by simp [cellD] at h⟩
theorem one_row {w' : World} {S T : Nat → Prop} {B e sz : Nat} {mo : Option Nat} {xs : Ovi.Rows} {v : Value} (h : rowC w' S T B mo e sz xs v) : resC w' S T B (fun _ _ => mo) v [(false, [.row e sz xs])] := by
  refine ⟨⟨[v], rfl, rfl, fun i x hx => ?_⟩, fun i j i' j' b h1 h2 _ _ => ?_⟩
  · cases i with
    | zero => cases hx; exact ⟨v, rfl, _, rfl, h⟩
    | succ i => simp at hx
  · have key : ∀ i j, isRow (leafAt [(false, [.row e sz xs])] i j) = true → i = 0 ∧ j = 0 := by
      intro i j hij
      cases i with
      | zero =>
        cases j with
        | zero => exact ⟨rfl, rfl⟩
        | succ j => simp [leafAt, isRow] at hij
      | succ i => simp [leafAt, isRow] at hij
    obtain ⟨rfl, rfl⟩ := key i j h1
    obtain ⟨rfl, rfl⟩ := key i' j' h2
    exact ⟨rfl, rfl⟩
theorem cloneZ_sound {P : Program} {G : Gd} {f : FuncId} {e sz : Nat} (h : CloneZC P f e sz) {args : Args} {r : Res} (hr : cloneZP e sz args = some r) : PlainC P G f args r ∧ isRaw args = false := by
  unfold cloneZP at hr
  split at hr
  · rename_i sz' xs
    cases hb : (Nat.beq sz' sz && Nat.ble xs.length 1099511627776) with
    | false => rw [hb] at hr; cases hr
    | true =>
      rw [hb] at hr
      cases hr
      by_cases hx : xs = []
      · subst hx
        refine ⟨?_, rfl⟩
        intro w S T vs hS hT hl _
        obtain ⟨u, hu, hrd⟩ := hl.2 0 _ rfl
        have hvs : vs = #[u] := by
          have h1 : vs.size = 1 := hl.1
          apply Array.ext_getElem?
          intro i
          cases i with
          | zero => rw [hu]; rfl
          | succ i => rw [Array.getElem?_eq_none (by omega), Array.getElem?_eq_none (by simp)]
        subst hvs
        have hrd : RD w S T u (.list sz' []) := hrd
        cases hrd with
        | list A cap _ _ g h1 h3 h4 h5 h6 =>
          cases A with
          | none =>
            refine (h.nil 0 cap w).mono fun ex w' ⟨k1, k2⟩ => ?_
            subst k1 k2
            exact ⟨_, S, fun _ _ => none, rfl, Below.refl _ _, fun _ h => h, fun _ h => .inl h, one_row ⟨fun i x h => by simp at h, ⟨rfl, none, rfl⟩, rfl⟩⟩
          | some a =>
            refine (h.zero a cap w).mono fun ex w' ⟨v', k1, k2, k3⟩ => ?_
            subst k1
            obtain ⟨mo, hm⟩ := row_empty (T := T) k2 hS
            exact ⟨_, S, fun _ _ => mo, rfl, k3, fun _ h => h, fun _ h => .inl h, one_row hm⟩
      · refine cloneK_sound h.base ?_
        rw [Bool.and_eq_true] at hb
        show cond (Nat.beq sz' sz && (Nat.ble 1 xs.length && Nat.ble xs.length 1099511627776)) (some [(false, [RL.row e sz xs])] : Option Res) none = _
        rw [hb.1, hb.2, show Nat.ble 1 xs.length = true from Nat.ble_eq_true_of_le (List.length_pos_iff.2 hx)]
        rfl
  · cases hr
theorem CloneZC.ok {P : Program} {G : Gd} {f : FuncId} {e sz : Nat} (h : CloneZC P f e sz) : PrimOk P G f (cloneZP e sz) := ⟨h.base.known, (fun args r hr => (cloneZ_sound h hr).1), (fun k e0 sz0 xs rest r hr e' he => by have := (cloneZ_sound (G := noG) h hr).2; cases this)⟩
end Ovi

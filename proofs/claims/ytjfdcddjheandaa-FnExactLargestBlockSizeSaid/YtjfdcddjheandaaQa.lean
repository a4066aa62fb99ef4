/-
The functions of the program as the machine runs them: printed equations; what they compute: copies, sizes, comparisons, instances, blocks of nulls; both programs answer alike. No condition.
-/
import Derived.Test.YtjfdcddjheandaaOb
import Derived.Shelf.SlSortCmp.Kit1
import Derived.Test.YtjfdcddjheandaaProg
import Derived.KernelRfl
set_option linter.unusedVariables false
set_option linter.unusedSimpArgs false
/-! Srf -/
namespace Ovi
open Go Go.Proofs Go.RowKit Go.Sort Go.Lib

/-! ### slices.SortFunc on rows of integer lists, under slices.Compare -/
def cmpL : List Int → List Int → Int
  | [], [] => 0
  | [], _ :: _ => -1
  | _ :: _, [] => 1
  | x :: xs, y :: ys => if x < y then -1 else if x > y then 1 else cmpL xs ys
def ltL (x y : List Int) : Bool := decide (cmpL x y < 0)
theorem ltL_iff : ∀ (x y : List Int), ltL x y = true ↔ x < y
  | [], [] => by simp [ltL, cmpL]
  | [], y :: ys => by simp [ltL, cmpL]
  | x :: xs, [] => by simp [ltL, cmpL]
  | x :: xs, y :: ys => by
    rw [List.cons_lt_cons_iff, ← ltL_iff xs ys]
    unfold ltL
    rw [show cmpL (x :: xs) (y :: ys) = if x < y then -1 else if x > y then 1 else cmpL xs ys from rfl]
    simp only [decide_eq_true_eq]
    by_cases h1 : x < y
    · simp [h1]
    · by_cases h2 : x > y
      · rw [if_neg h1, if_pos h2]
        constructor
        · intro h; omega
        · rintro (h | ⟨h, _⟩) <;> omega
      · have h3 : x = y := by omega
        rw [if_neg h1, if_neg h2]
        constructor
        · intro h; exact .inr ⟨h3, h⟩
        · rintro (h | ⟨_, h⟩)
          · omega
          · exact h
theorem ltL_f (x y : List Int) : ltL x y = false ↔ y ≤ x := by
  rw [← List.not_lt, ← ltL_iff, Bool.not_eq_true]
theorem swoL : SWO ltL where
  irrefl x := by rw [ltL_f]; exact List.le_refl _
  trans x y z h1 h2 := by rw [ltL_iff] at *; exact List.lt_trans h1 h2
  ntrans x y z h1 h2 := by rw [ltL_f] at *; exact List.le_trans h2 h1
theorem antiL (x y : List Int) (h1 : ltL x y = false) (h2 : ltL y x = false) : x = y := by
  rw [ltL_f] at h1 h2
  exact List.le_antisymm h2 h1
def sortLists (l : BL) : BL := l.mergeSort fun x y => !ltL y x
theorem mem_sortLists (l : BL) (b : List Int) : b ∈ sortLists l ↔ b ∈ l := by simp [sortLists]
theorem sortLists_len (l : BL) : (sortLists l).length = l.length := by simp [sortLists]
theorem srt_unique {l l' : BL} (hp : l'.Perm l) (hs : l'.Pairwise fun x y => ltL y x = false) : l' = sortLists l := by
  refine List.Perm.eq_of_pairwise (le := fun x y => (!ltL y x) = true) ?_ ?_ ?_ (hp.trans (List.mergeSort_perm _ _).symm)
  · intro a b _ _ h1 h2
    simp only [Bool.not_eq_true'] at h1 h2
    exact antiL a b h2 h1
  · exact hs.imp fun h => by rw [h]; rfl
  · refine List.pairwise_mergeSort ?_ ?_ _
    · intro a b c h1 h2
      simp only [Bool.not_eq_true'] at h1 h2 ⊢
      exact swoL.ntrans c b a h2 h1
    · intro a b
      cases h : ltL b a with
      | false => simp
      | true =>
        have : ltL a b = false := by
          rw [ltL_iff] at h
          rw [ltL_f]
          exact List.le_of_lt h
        simp [this]
def LL (l : BL) : Rows := l.map fun zs => [.list 1 (I1 zs)]
theorem LL_len (l : BL) : (LL l).length = l.length := by simp [LL]
theorem LL_get (l : BL) (i : Nat) : (LL l)[i]? = (l[i]?).map fun zs => [.list 1 (I1 zs)] := by simp [LL]
theorem LL_at {l : BL} {i : Nat} {zs : List Int} (h : l[i]? = some zs) : cellD (LL l) i 0 = some (.list 1 (I1 zs)) := by simp [cellD, LL_get, h]
theorem LL_cell {l : BL} {i c : Nat} {x : D} (h : cellD (LL l) i c = some x) : c = 0 ∧ ∃ zs, l[i]? = some zs ∧ x = .list 1 (I1 zs) := by
  obtain ⟨row, hr, hc⟩ := cellD_lt h
  rw [LL_get] at hr
  obtain ⟨zs, hz, rfl⟩ := Option.map_eq_some_iff.1 hr
  cases c with
  | zero => simp at hc; exact ⟨rfl, zs, hz, hc.symm⟩
  | succ c => simp at hc
theorem LL_rows (l : BL) : ∀ (i : Nat) (x : List D), (LL l)[i]? = some x → x.length = 1 := by
  intro i x h
  rw [LL_get] at h
  obtain ⟨z, _, rfl⟩ := Option.map_eq_some_iff.1 h
  rfl
def lists : Rows → Option BL
  | [] => some []
  | [.list 1 xs] :: r => (ints xs).bind fun zs => (lists r).bind fun l => some (zs :: l)
  | _ => none
theorem lists_LL (l : BL) : lists (LL l) = some l := by
  induction l with
  | nil => rfl
  | cons zs l ih =>
    show ((ints (I1 zs)).bind fun zs => (lists (LL l)).bind fun l => some (zs :: l)) = _
    rw [ih, ints_I1]
    rfl
theorem lists_some : ∀ {xs : Rows} {l : BL}, lists xs = some l → xs = LL l
  | [], l, h => by cases h; rfl
  | [.list 1 xs] :: r, l, h => by
    unfold lists at h
    obtain ⟨zs, h1, h⟩ := Option.bind_eq_some_iff.1 h
    obtain ⟨l', h2, h⟩ := Option.bind_eq_some_iff.1 h
    cases h
    rw [lists_some h2, ints_some h1]
    rfl
def sortFArg (g : Nat) : Args → Option (Nat × BL)
  | [.var 0 0, .d (.int .i64 e), .d (.list 1 xs), .d (.fn g' [])] => cond (Nat.beq g' g) ((lists xs).bind fun l => cond (Nat.ble l.length 1099511627776 && l.all fun z => Nat.ble z.length 1099511627776) (some (e.toNat, l)) none) none
  | _ => none
def sortFP (g : Nat) (args : Args) : Option Res := (sortFArg g args).bind fun p => some [(false, [.row p.1 1 (LL (sortLists p.2))])]
theorem sortFArg_isRaw {g : Nat} {args : Args} {p : Nat × BL} (h : sortFArg g args = some p) : ∃ e xs, args = [.var 0 0, .d (.int .i64 e), .d (.list 1 xs), .d (.fn g [])] := by
  unfold sortFArg at h
  split at h
  · rename_i e xs g'
    cases hb : Nat.beq g' g with
    | false => rw [hb] at h; cases h
    | true => exact ⟨e, xs, by rw [Nat.eq_of_beq_eq_true hb]⟩
  · cases h
theorem sortFArg_some {g : Nat} {k : IntKind} {e : Int} {sz : Nat} {xs : Rows} {rest : Args} {p : Nat × BL} (h : sortFArg g (rawTag :: .d (.int k e) :: .d (.list sz xs) :: rest) = some p) : sz = 1 ∧ rest = [.d (.fn g [])] ∧ xs = LL p.2 ∧ p.1 = e.toNat ∧ p.2.length ≤ 1099511627776 ∧ ∀ z ∈ p.2, z.length ≤ 1099511627776 := by
  obtain ⟨e1, xs1, heq⟩ := sortFArg_isRaw h
  simp only [rawTag, List.cons.injEq, AV.d.injEq, D.int.injEq, D.list.injEq, true_and] at heq
  obtain ⟨⟨rfl, rfl⟩, ⟨rfl, rfl⟩, rfl⟩ := heq
  simp only [sortFArg, rawTag, show Nat.beq g g = true from Nat.beq_refl g, cond_true] at h
  obtain ⟨l, hl, h⟩ := Option.bind_eq_some_iff.1 h
  cases hb : (Nat.ble l.length 1099511627776 && l.all fun z => Nat.ble z.length 1099511627776) with
  | false => rw [hb] at h; cases h
  | true =>
    rw [hb] at h
    cases h
    rw [Bool.and_eq_true, List.all_eq_true] at hb
    exact ⟨rfl, rfl, lists_some hl, rfl, Nat.le_of_ble_eq_true hb.1, fun z hz => Nat.le_of_ble_eq_true (hb.2 z hz)⟩
/-- a list of integers, laid in the blocks of S -/
def RI (w : World) (S : Nat → Prop) (u : Value) (zs : List Int) : Prop := ∃ A cap, u = .slice A zs.length cap ∧ zs.length ≤ cap ∧ ∀ (i : Nat) z, zs[i]? = some z → ∃ ad, A = some ad ∧ S ad.block ∧ w.cell? (ad.add i) = some (.int .i64 z)
section
variable {P : Program} {G : Gd} {w w' : World} {S T : Nat → Prop} {u : Value} {zs : List Int}
theorem RD.ri (h : RD w S T u (.list 1 (I1 zs))) : RI w S u zs := by
  generalize hxs : I1 zs = XS at h
  cases h with
  | list A cap sz xs g h1 h3 h4 h5 h6 =>
    subst hxs
    rw [I1_len] at h1
    refine ⟨A, cap, by rw [I1_len], h1, fun i z hz => ?_⟩
    obtain ⟨ad, e1, e2, e3⟩ := h4 i 0 _ (I1_at hz)
    have hr := h5 i 0 _ (I1_at hz)
    refine ⟨ad, e1, e2, ?_⟩
    rw [Nat.mul_one, Nat.add_zero] at e3
    rw [e3]
    generalize g i 0 = G at hr
    cases hr
    rfl
theorem RI.rd (h : RI w S u zs) : RD w S T u (.list 1 (I1 zs)) := by
  obtain ⟨A, cap, rfl, h1, h2⟩ := h
  have := RD.list (w := w) (S := S) (T := T) A cap 1 (I1 zs) (fun i _ => .int .i64 (zs.getD i 0)) (by rw [I1_len]; exact h1) (I1_rows zs) (fun i c x hx => by
    obtain ⟨rfl, z, hz, rfl⟩ := I1_cell hx
    obtain ⟨ad, e1, e2, e3⟩ := h2 i z hz
    refine ⟨ad, e1, e2, ?_⟩
    rw [Nat.mul_one, Nat.add_zero, e3, List.getD_eq_getElem?_getD, hz]
    rfl) (fun i c x hx => by
    obtain ⟨rfl, z, hz, rfl⟩ := I1_cell hx
    rw [List.getD_eq_getElem?_getD, hz]
    exact .int _ _) (fun i c x hx => by
    obtain ⟨rfl, z, hz, rfl⟩ := I1_cell hx
    rfl)
  rw [I1_len] at this
  exact this
theorem RI.stab (h : RI w S u zs) (hs : Stab S w w') : RI w' S u zs := by
  obtain ⟨A, cap, rfl, h1, h2⟩ := h
  refine ⟨A, cap, rfl, h1, fun i z hz => ?_⟩
  obtain ⟨ad, e1, e2, e3⟩ := h2 i z hz
  exact ⟨ad, e1, e2, by rw [← e3]; exact hs.cell (by rw [add_block]; exact e2)⟩
structure HdL (w : World) (S : Nat → Prop) where
  v : Value
  l : List Int
  h : RI w S v l
  b : l.length ≤ 1099511627776
def encH (h : HdL w S) : Value := h.v
def lstH (h : HdL w S) : List Int := h.l
instance : Inhabited (HdL w S) := ⟨⟨.slice none 0 0, [], ⟨none, 0, rfl, Nat.le_refl _, fun i z h => by simp at h⟩, by simp⟩⟩
def cmpH (x y : HdL w S) : Int := cmpL (lstH x) (lstH y)
theorem swoH : SWO (ltOf (cmpH (w := w) (S := S))) := ⟨fun x => swoL.irrefl _, fun x y z h1 h2 => swoL.trans _ _ _ h1 h2, fun x y z h1 h2 => swoL.ntrans _ _ _ h1 h2⟩
end
/-- what is asked of the comparison -/
def CmpC (P : Program) (g : FuncId) : Prop := ∀ (w : World) (S : Nat → Prop) (u v : Value) (xs ys : List Int), RI w S u xs → RI w S v ys → xs.length ≤ 1099511627776 → ys.length ≤ 1099511627776 →
  Calls P g #[u, v] w fun e w' => e = .returned (.int .i64 (cmpL xs ys)) ∧ ∃ q os, w' = grow (w.drewN q) os
/-- what the shelf promises of slices.SortFunc at rows of lists -/
structure SortFC (P : Program) (f g : FuncId) : Prop where
  known : Known P f
  run : ∀ (w : World) (S : Nat → Prop) (blk cap : Nat) (d : Array (HdL w S)), (∀ k, S k → k < w.heap.size) → ¬ S blk → Holds encH w blk 0 d → blk < w.heap.size → d.size < 4611686018427387904 →
    Calls P f #[.slice (some ⟨blk, 0, none⟩) d.size cap, .func (.func g) #[] #[]] w fun e w' => e = .returned (.tuple #[]) ∧ ∃ (d' : Array (HdL w S)) (n : Nat) (os : Array Obj), PermIn 0 d.size d d' ∧ SortedIn (ltOf cmpH) 0 d.size d' ∧ w' = sortWorld encH w blk 0 n d' os
  nil : ∀ (A : Option Addr) (w : World), Calls P f #[.slice A 0 0, .func (.func g) #[] #[]] w fun e w' => e = .returned (.tuple #[]) ∧ Below w.heap.size w w'
section
variable {P : Program} {G : Gd} {w : World} {S T : Nat → Prop} {b e cap : Nat} {α : Type} [Inhabited α] {enc : α → Value}
theorem heapS {n : Nat} {os : Array Obj} {cur : Array Value} {fr : Nat × Nat} (d : Array α) (hb : w.heap[b]? = some (.cells cur e fr)) :
    (sortWorld enc w b 0 n d os).heap[b]? = some (.cells (putCells enc 0 d cur) e fr) := by
  have hg : b < w.heap.size := (Array.getElem?_eq_some_iff.1 hb).1
  unfold sortWorld
  rw [heap_grow_old _ _ (by simpa using hg)]
  simp [putRow, mapBlock, Sort.ahead, Array.getElem?_modify, hb, onCells]
theorem heapO {n : Nat} {os : Array Obj} (d : Array α) {k : Nat} (hk : k < w.heap.size) (hne : k ≠ b) : (sortWorld enc w b 0 n d os).heap[k]? = w.heap[k]? := by
  unfold sortWorld
  rw [heap_grow_old _ _ (by simpa using hk)]
  simp [putRow, mapBlock, Sort.ahead, Array.getElem?_modify, Ne.symm hne]
theorem stabS {n : Nat} {os : Array Obj} (d : Array α) (hS : ∀ k, S k → k < w.heap.size) (hb : ¬ S b) : Stab S w (sortWorld enc w b 0 n d os) :=
  fun k hk => heapO d (hS k hk) fun h => hb (h ▸ hk)
end
theorem mkH {w : World} {S : Nat → Prop} {cur : Array Value} : ∀ (l : BL) (o : Nat), (∀ i zs, l[i]? = some zs → ∃ v, cur[o + i]? = some v ∧ RI w S v zs ∧ zs.length ≤ 1099511627776) → ∃ d : List (HdL w S), d.map lstH = l ∧ ∀ j x, d[j]? = some x → cur[o + j]? = some (encH x)
  | [], o, _ => ⟨[], rfl, fun j x h => by simp at h⟩
  | z :: l, o, h => by
    obtain ⟨d, h1, h2⟩ := mkH l (o + 1) fun i zs hz => by
      have := h (i + 1) zs (by simpa using hz)
      rwa [show o + (i + 1) = o + 1 + i by omega] at this
    obtain ⟨v, hv, hr, hzb⟩ := h 0 z rfl
    refine ⟨(⟨v, z, hr, hzb⟩ : HdL w S) :: d, by rw [List.map_cons, h1]; rfl, fun j x hx => ?_⟩
    cases j with
    | zero => cases hx; exact hv
    | succ j => rw [show o + (j + 1) = o + 1 + j by omega]; exact h2 j x (by simpa using hx)
theorem plain_raw' {P : Program} {G : Gd} {f : FuncId} {rest : Args} {r : Res} : PlainC P G f (.var 0 0 :: rest) r := by
  intro w S T vs hS hT hl
  obtain ⟨u, hu, ⟨cs, h⟩, _⟩ := hl.2 0 _ rfl
  cases h
theorem sortF_sound {P : Program} {G : Gd} {fs g : FuncId} (h : SortFC P fs g) {args : Args} {r : Res} (hr : sortFP g args = some r) : PlainC P G fs args r ∧ ∀ k e sz xs rest, args = rawTag :: .d (.int k e) :: .d (.list sz xs) :: rest → ∀ e' : Nat, e = e' → RawC P fs e' sz xs rest r := by
  obtain ⟨⟨e0, l⟩, hra, hr⟩ := Option.bind_eq_some_iff.1 hr
  cases hr
  refine ⟨?_, fun k e sz xs rest hargs e' he => ?_⟩
  · obtain ⟨_, _, rfl⟩ := sortFArg_isRaw hra
    exact plain_raw'
  · subst hargs
    obtain ⟨rfl, rfl, rfl, h4, hlen, hlz⟩ := sortFArg_some hra
    simp only at h4 hlen hlz
    subst he h4
    intro w S T mo u vs hS hT hrow hl
    have hvs : vs = #[.func (.func g) #[] #[]] := by
      obtain ⟨u0, hu0, hrd⟩ := hl.2 0 _ rfl
      have hrd : RD w S T u0 (.fn g []) := hrd
      have h1 : vs.size = 1 := hl.1
      have h2 : u0 = .func (.func g) #[] #[] := by
        generalize hc : ([] : Rows) = CS at hrd
        cases hrd with
        | fn f vs' caps g' k1 k4 k5 =>
          subst hc
          rw [Array.eq_empty_of_size_eq_zero k1]
      subst h2
      apply Array.ext_getElem?
      intro i
      cases i with
      | zero => rw [hu0]; rfl
      | succ i => rw [Array.getElem?_eq_none (by omega), Array.getElem?_eq_none (by simp)]
    subst hvs
    simp only [Int.toNat_natCast]
    have hsl := sortLists_len l
    cases mo with
    | none =>
      obtain ⟨_, ⟨_, A, rfl⟩, hn⟩ := hrow
      have hz : l = [] := by simpa [LL] using hn
      subst hz
      refine (h.nil A w).mono fun ex w' ⟨h1, h2⟩ => ⟨_, h1, h2, fun _ => ⟨by simp [LL, sortLists], rfl, ?_⟩⟩
      refine ⟨fun i x hx => by simp [LL, sortLists] at hx, ⟨by simp [LL, sortLists], A, rfl⟩, by simp [LL, sortLists]⟩
    | some b =>
      obtain ⟨_, ⟨cap, cur, rfl, hc, h1, h2, h3⟩, _, hnS, cur', hc', h5, h6⟩ := hrow
      rw [LL_len] at *
      rw [hc] at hc'
      cases hc'
      have hblk : b < w.heap.size := lt_of_blk hc
      obtain ⟨dl, hd1, hdl⟩ := mkH (w := w) (S := S) (cur := cur) l 0 fun i zs hz => by
        obtain ⟨_, v, hv, hrd⟩ := h6 i 0 _ (LL_at hz)
        rw [Nat.mul_one, Nat.add_zero] at hv
        exact ⟨v, by rw [Nat.zero_add]; exact hv, RD.ri hrd, hlz _ (List.mem_of_getElem? hz)⟩
      obtain ⟨d, rfl⟩ : ∃ d : Array (HdL w S), dl = d.toList := ⟨dl.toArray, rfl⟩
      have hd2 : Holds encH w b 0 d := by
        intro j hj
        rw [getElem!_pos d j hj]
        refine ⟨?_, by simp [World.frozen?, hc]⟩
        simp only [World.cell?, hc, Option.isSome_none, Bool.false_eq_true, if_false]
        exact hdl j _ (by simp [hj])
      have hds : d.size = l.length := by rw [← hd1]; simp
      have hcall := h.run w S b cap d hS hnS hd2 hblk (by omega)
      rw [hds] at hcall
      refine hcall.mono fun ex w' ⟨k1, d', n, os, ⟨p1, _, p3⟩, k3, k4⟩ => ?_
      subst k4
      have hds' : d'.size = l.length := by rw [p1, hds]
      have hext : ∀ (a : Array (HdL w S)) (m : Nat), a.size = m → a.extract 0 m = a := fun a m hm => by subst hm; exact Array.extract_size
      rw [hext d' _ hds', hext d _ hds] at p3
      have hys : d'.toList.map lstH = sortLists l := by
        refine srt_unique (by rw [← hd1]; exact p3.map _) ?_
        rw [List.pairwise_map, List.pairwise_iff_getElem]
        intro i j hi hj hij
        have hi' : i < d'.size := by simpa using hi
        have hj' : j < d'.size := by simpa using hj
        have := k3 i j (Nat.zero_le _) hij (by omega)
        rw [getElem!_pos d' j hj', getElem!_pos d' i hi'] at this
        exact this
      have hnew := heapS (enc := encH) (n := n) (os := os) d' hc
      have hcsz : (putCells encH 0 d' cur).size = cur.size := by simp [putCells]
      have hst := stabS (enc := encH) (n := n) (os := os) d' hS hnS
      refine ⟨_, k1, ⟨cur, _, hc, hcsz, rfl, rfl, rfl, by simp [sortWorld, grow, putRow, mapBlock, Sort.ahead, setBlk], fun k hk => ?_⟩, fun _ => ⟨by rw [LL_len, LL_len, hsl], rfl, LL_rows _, ?_, Nat.zero_le _, hnS, _, hnew, by rw [LL_len, hsl, hcsz]; omega, fun i c x hx => ?_⟩⟩
      · have hk : k < w.heap.size := by simpa using hk
        by_cases hkb : k = b
        · subst hkb
          rw [setBlk_at hblk, hnew]
        · rw [setBlk_ne hkb]
          exact heapO _ hk hkb
      · rw [LL_len, hsl]
        exact ⟨cap, _, rfl, hnew, h1, h2, by rw [hcsz]; omega⟩
      · obtain ⟨rfl, zs, hz, rfl⟩ := LL_cell hx
        have hi : i < d'.size := by
          have := (List.getElem?_eq_some_iff.1 hz).1
          omega
        refine ⟨rfl, encH d'[i], ?_, ?_⟩
        · have h5' : l.length * 1 ≤ cur.size := h5
          have hic : i < cur.size := by omega
          simp only [Nat.mul_one, Nat.add_zero, putCells, Array.getElem?_mapIdx]
          rw [Array.getElem?_eq_getElem hic]
          simp [hi]
        · have : lstH d'[i] = zs := by
            rw [← hys] at hz
            simpa [hi] using hz
          rw [← this]
          exact RI.rd (RI.stab d'[i].h hst)
theorem SortFC.ok {P : Program} {G : Gd} {f g : FuncId} (h : SortFC P f g) : PrimOk P G f (sortFP g) := ⟨h.known, (fun args r hr => (sortF_sound h hr).1), (fun k e sz xs rest r hr e' he => (sortF_sound (G := noG) h hr).2 k e sz xs rest rfl e' he)⟩
end Ovi

/-! NB -/
namespace Go.Proofs.Ytjfdcddjheandaa.Q
open Go Ovi
noncomputable abbrev P := Try.prog
def sg : FuncId → Sig := fun f => match f with
  | 3 => [(false, [.bool])]
  | 4 => [(false, [.bool])]
  | 5 => [(false, [.bool])]
  | 6 => [(false, [.bool])]
  | 7 => [(false, [.int .i64])]
  | 8 => [(true, [.own 87 3, .own 59 2]), (false, [.bool])]
  | 9 => [(true, [.own 87 3, .own 59 2])]
  | 10 => [(false, [.own 3 1])]
  | 11 => [(true, [.own 87 3, .ro 2]), (false, [.bool])]
  | 12 => [(false, [.bool])]
  | 13 => [(false, [.bool])]
  | 14 => [(false, [.int .i64])]
  | 15 => [(false, [.int .i64])]
  | 16 => [(false, [.int .i64])]
  | 17 => [(true, [.own 87 3, .own 59 2, .own 102 3]), (false, [.bool])]
  | 18 => [(true, [.own 87 3, .own 59 2, .own 102 3]), (false, [.bool])]
  | 19 => [(false, [.bool])]
  | 20 => [(false, [.int .i64])]
  | 21 => [(false, [.int .i64])]
  | 22 => [(false, [.int .i64])]
  | 23 => [(false, [.int .i64])]
  | 24 => [(false, [.own 26 1])]
  | 25 => [(false, [.own 26 1])]
  | 26 => [(false, [.bool])]
  | 27 => [(false, [.int .i64])]
  | 28 => [(false, [.int .i64])]
  | 29 => [(false, [.int .i64])]
  | 30 => [(false, [.int .i64])]
  | 31 => [(false, [.bool])]
  | 32 => [(false, [.ro 1])]
  | 33 => [(false, [.bool])]
  | 34 => [(true, [.int .i64, .own 3 1])]
  | 35 => [(false, [.own 87 3])]
  | 36 => [(false, [.own 59 2])]
  | 37 => [(false, [.bool])]
  | 38 => [(true, [.own 87 3, .own 59 2])]
  | 39 => [(false, [.ro 2])]
  | 40 => [(false, [.bool])]
  | 41 => [(false, [.bool])]
  | 42 => [(false, [.bool])]
  | 43 => [(false, [.bool])]
  | 44 => [(false, [.int .i64])]
  | 45 => [(false, [.int .i64])]
  | 46 => [(false, [.int .i64])]
  | 47 => [(false, [.int .i64])]
  | 48 => [(false, [.bool])]
  | 49 => [(true, [.own 87 3, .own 59 2])]
  | 50 => [(false, [.bool])]
  | 51 => [(false, [.bool])]
  | 52 => [(false, [.int .i64])]
  | 53 => [(false, [.int .i64])]
  | 54 => [(false, [.ro 1])]
  | 55 => [(false, [.own 3 1])]
  | 56 => [(false, [.bool])]
  | 57 => [(false, [.bool])]
  | 58 => [(false, [.bool])]
  | 59 => [(true, [])]
  | 60 => [(true, []), (true, [])]
  | 61 => [(true, [])]
  | 62 => [(false, [.int .i64])]
  | 63 => [(false, [.int .i64])]
  | 64 => [(false, [.int .i64])]
  | 65 => [(false, [.int .i64])]
  | 66 => [(false, [.bool])]
  | 67 => [(false, [.int .i64])]
  | 68 => [(false, [.bool])]
  | 69 => [(false, [.int .i64]), (false, [.bool])]
  | 70 => [(false, [.ro 1])]
  | 71 => [(true, [.str, .int .i64, .bool])]
  | 72 => [(true, [.int .i64, .own 3 1])]
  | 73 => [(false, [.bool])]
  | 74 => [(false, [.bool])]
  | 75 => [(false, [.int .i64])]
  | 76 => [(false, [.own 87 3])]
  | 77 => [(false, [.own 59 2])]
  | 78 => [(false, [.int .i64])]
  | 79 => [(false, [.bool])]
  | 80 => [(false, [.bool])]
  | 81 => [(false, [.bool])]
  | 82 => [(false, [.str])]
  | 83 => [(false, [.own 3 1])]
  | 84 => [(false, [.bool])]
  | 85 => [(false, [.own 3 1])]
  | 86 => [(false, [.int .i64])]
  | 87 => [(false, [.int .i64])]
  | 88 => []
  | 89 => [(false, [.int .i64])]
  | 90 => []
  | 91 => [(false, [.int .i64])]
  | 92 => [(false, [.int .i64])]
  | 93 => [(false, [.bool])]
  | 94 => [(false, [.bool])]
  | 95 => [(false, [.int .i64])]
  | 96 => [(false, [.bool])]
  | 97 => [(false, [.bool])]
  | 98 => [(false, [.bool])]
  | 99 => [(false, [.bool])]
  | 100 => [(false, [.bool])]
  | 101 => [(false, [.int .i64])]
  | 102 => [(true, [.int .i64, .own 3 1])]
  | 103 => [(false, [.int .i64]), (false, [.bool])]
  | 104 => []
  | 105 => []
  | 106 => []
  | 107 => [(false, [.int .i64]), (false, [.int .i64])]
  | 108 => []
  | 109 => [(false, [.bool])]
  | 110 => [(false, [.bool])]
  | 111 => [(false, [.int .i64])]
  | 112 => [(false, [.int .i64]), (false, [.bool])]
  | 113 => [(false, [.int .i64])]
  | 114 => [(false, [.int .i64])]
  | 115 => []
  | 116 => []
  | 117 => []
  | 118 => [(false, [.int .i64]), (false, [.int .i64])]
  | 119 => []
  | 120 => [(false, [.bool])]
  | 121 => [(false, [.int .i64])]
  | 122 => [(false, [.int .i64]), (false, [.bool])]
  | 123 => [(false, [.bool])]
  | 124 => [(false, [.own 3 1])]
  | 125 => []
  | 126 => [(false, [.int .u64])]
  | 127 => [(false, [.int .u64])]
  | 128 => [(false, [.int .i64])]
  | 129 => [(false, [.int .i64])]
  | 130 => []
  | 131 => [(false, [.int .i64])]
  | 132 => [(false, [.int .i64])]
  | 133 => [(false, [.int .i64]), (false, [.int .i64])]
  | 134 => [(false, [.int .i64]), (false, [.int .i64])]
  | _ => []
def lp : FuncId → Nat → LoopHint := fun f l => match f, l with
  | 8, 5 => [(1, .same), (2, .box [.same, .same]), (4, .box [.own 87 3, .own 59 2]), (6, .box [.own 87 3, .own 59 2]), (7, .same)]
  | 8, 10 => [(1, .same), (2, .box [.same, .same]), (4, .box [.own 87 3, .own 59 2]), (6, .box [.own 87 3, .own 59 2]), (7, .same), (8, .same), (9, .same), (10, .same)]
  | 10, 3 => [(0, .same), (3, .own 3 1), (4, .same)]
  | 13, 4 => [(0, .same), (1, .same), (5, .same)]
  | 15, 2 => [(0, .same), (1, .same), (5, .same)]
  | 22, 4 => [(3, .same), (4, .own 26 1), (5, .same)]
  | 23, 3 => [(3, .same), (7, .own 26 1), (8, .same), (9, .same)]
  | 24, 7 => [(1, .box [.same, .same]), (3, .own 26 1), (4, .same), (5, .own 3 1), (6, .same)]
  | 24, 11 => [(1, .box [.same, .same]), (3, .own 26 1), (4, .same), (5, .own 3 1), (7, .same)]
  | 24, 14 => [(1, .box [.same, .same]), (3, .own 26 1), (4, .same), (5, .own 3 1), (7, .same), (8, .same)]
  | 24, 19 => [(1, .box [.same, .same]), (3, .own 26 1), (4, .same), (5, .own 3 1), (7, .same), (8, .same), (9, .same), (10, .same), (11, .same)]
  | 24, 23 => [(1, .box [.same, .same]), (3, .own 26 1), (4, .same), (5, .own 3 1), (7, .same), (8, .same), (9, .same), (10, .same), (12, .same)]
  | 24, 27 => [(3, .own 26 1), (4, .same), (5, .own 3 1), (13, .same)]
  | 24, 31 => [(3, .own 26 1), (4, .same), (5, .own 3 1), (13, .same), (14, .own 3 1), (15, .same)]
  | 25, 5 => [(3, .own 26 1), (16, .same), (17, .same), (18, .same)]
  | 25, 11 => [(6, .box [.own 3 1]), (7, .own 26 1), (16, .same), (17, .same), (18, .same), (28, .own 26 1), (29, .same), (30, .same)]
  | 26, 4 => [(0, .same), (1, .same), (5, .same)]
  | 27, 2 => [(0, .same), (1, .same), (5, .same)]
  | 28, 2 => [(0, .same), (1, .same), (5, .same)]
  | 29, 5 => [(0, .same), (1, .same), (5, .same)]
  | 30, 5 => [(0, .same), (1, .same), (5, .same)]
  | 31, 2 => [(1, .box [.same, .same]), (3, .same)]
  | 32, 3 => [(1, .box [.same, .same]), (3, .data 1), (4, .same)]
  | 33, 2 => [(0, .same), (1, .same), (5, .same)]
  | 35, 3 => [(0, .same), (3, .own 87 3), (4, .same)]
  | 36, 3 => [(0, .same), (3, .own 59 2), (4, .same)]
  | 37, 4 => [(1, .box [.same, .same]), (16, .same), (17, .same), (18, .same)]
  | 39, 5 => [(0, .same), (1, .same), (5, .same), (6, .same)]
  | 42, 4 => [(0, .same), (1, .same), (5, .same)]
  | 43, 4 => [(0, .same), (1, .same), (5, .same)]
  | 44, 2 => [(0, .same), (1, .same), (5, .same)]
  | 45, 2 => [(0, .same), (1, .same), (5, .same)]
  | 46, 2 => [(0, .same), (1, .same), (5, .same)]
  | 47, 2 => [(0, .same), (1, .same), (5, .same)]
  | 49, 3 => [(1, .box [.same, .same]), (2, .box [.own 87 3, .own 59 2]), (3, .box [.own 87 3, .own 59 2]), (4, .same)]
  | 51, 4 => [(0, .same), (1, .same), (5, .same)]
  | 52, 2 => [(0, .same), (1, .same), (5, .same)]
  | 53, 2 => [(0, .same), (1, .same), (5, .same)]
  | 54, 3 => [(1, .box [.same, .same]), (3, .data 1), (4, .same)]
  | 54, 7 => [(1, .box [.same, .same]), (3, .data 1), (4, .same), (5, .same), (6, .same)]
  | 60, 4 => [(0, .same), (3, .same)]
  | 60, 9 => [(0, .same), (3, .same), (4, .same), (5, .same)]
  | 62, 2 => [(0, .same), (1, .same), (9, .same), (10, .same), (11, .same)]
  | 63, 2 => [(0, .same), (1, .same), (5, .same)]
  | 66, 4 => [(3, .box [.same, .same]), (5, .same)]
  | 68, 2 => [(0, .same), (3, .same)]
  | 70, 2 => [(0, .same), (1, .same), (5, .same)]
  | 73, 2 => [(0, .same), (5, .same), (6, .same), (7, .same)]
  | 77, 3 => [(3, .own 59 2), (7, .same), (8, .same), (9, .same)]
  | 78, 2 => [(0, .same), (1, .same), (7, .same), (8, .same)]
  | 82, 4 => [(0, .same), (3, .same)]
  | 83, 3 => [(3, .own 3 1), (8, .same), (9, .same), (10, .same)]
  | 85, 3 => [(3, .own 3 1), (9, .same), (10, .same), (11, .same)]
  | 86, 2 => [(0, .same), (1, .same), (7, .same), (8, .same)]
  | 87, 2 => [(0, .same), (1, .same), (7, .same), (8, .same)]
  | 88, 2 => [(0, .same), (1, .same), (2, .same), (3, .same), (8, .same), (9, .same)]
  | 90, 2 => [(0, .same), (1, .same), (2, .same), (3, .same), (4, .same), (10, .same), (11, .same)]
  | 95, 2 => [(0, .same), (1, .same), (5, .same)]
  | 101, 3 => [(3, .same), (6, .same), (7, .same), (8, .same)]
  | 104, 1 => [(0, .same), (1, .same), (2, .same), (6, .same)]
  | 104, 4 => [(0, .same), (1, .same), (2, .same), (6, .same), (7, .same)]
  | 105, 4 => [(0, .same), (6, .same), (7, .same), (8, .same), (9, .same)]
  | 105, 8 => [(0, .same), (6, .same), (7, .same), (10, .same)]
  | 106, 5 => [(0, .same), (1, .same), (6, .same), (7, .box [.same]), (8, .same), (9, .same)]
  | 108, 2 => [(0, .same), (6, .same), (7, .same)]
  | 109, 3 => [(0, .same), (1, .same), (2, .same), (7, .same), (8, .same)]
  | 109, 5 => [(0, .same), (1, .same), (2, .same), (7, .same), (8, .same)]
  | 109, 14 => [(0, .same), (1, .same), (2, .same), (7, .same), (8, .same), (9, .same)]
  | 109, 20 => [(0, .same), (1, .same), (2, .same), (7, .same), (8, .same), (10, .same)]
  | 111, 3 => [(0, .same), (1, .same), (9, .same), (10, .same)]
  | 111, 5 => [(0, .same), (1, .same), (9, .same), (10, .same)]
  | 112, 3 => [(0, .same), (1, .same), (10, .same), (11, .same)]
  | 112, 5 => [(0, .same), (1, .same), (10, .same), (11, .same)]
  | 112, 13 => [(0, .same), (1, .same), (10, .same), (11, .same)]
  | 112, 15 => [(0, .same), (1, .same), (10, .same), (11, .same)]
  | 115, 1 => [(0, .same), (1, .same), (2, .same), (3, .same), (8, .same)]
  | 115, 4 => [(0, .same), (1, .same), (2, .same), (3, .same), (8, .same), (9, .same)]
  | 116, 4 => [(0, .same), (3, .same), (8, .same), (9, .same), (10, .same), (11, .same)]
  | 116, 8 => [(0, .same), (3, .same), (8, .same), (9, .same), (12, .same)]
  | 117, 5 => [(0, .same), (1, .same), (8, .same), (9, .box [.same]), (10, .same), (11, .same)]
  | 119, 2 => [(0, .same), (8, .same), (9, .same)]
  | 120, 3 => [(0, .same), (1, .same), (2, .same), (3, .same), (9, .same), (10, .same)]
  | 120, 5 => [(0, .same), (1, .same), (2, .same), (3, .same), (9, .same), (10, .same)]
  | 120, 14 => [(0, .same), (1, .same), (2, .same), (3, .same), (9, .same), (10, .same), (11, .same)]
  | 120, 20 => [(0, .same), (1, .same), (2, .same), (3, .same), (9, .same), (10, .same), (12, .same)]
  | 121, 3 => [(0, .same), (1, .same), (4, .same), (11, .same), (12, .same)]
  | 121, 5 => [(0, .same), (1, .same), (4, .same), (11, .same), (12, .same)]
  | 122, 3 => [(0, .same), (1, .same), (4, .same), (12, .same), (13, .same)]
  | 122, 5 => [(0, .same), (1, .same), (4, .same), (12, .same), (13, .same)]
  | 122, 13 => [(0, .same), (1, .same), (4, .same), (12, .same), (13, .same)]
  | 122, 15 => [(0, .same), (1, .same), (4, .same), (12, .same), (13, .same)]
  | 125, 1 => [(0, .same), (2, .same), (3, .same), (8, .same)]
  | 130, 1 => [(0, .same), (2, .same), (3, .same), (4, .same), (10, .same)]
  | _, _ => []
def hs : Hints := { sig := sg, loops := lp, joins := fun _ _ => none }

def prim : FuncId → Option (Args → Option Res) := prims [(59, sortP), (60, compactP), (124, cloneP 3), (61, sortFP 62)]
noncomputable def C (k : Nat) : CallF := evCall P hs prim k
end Go.Proofs.Ytjfdcddjheandaa.Q

/-! NFa -/
namespace Go.Proofs.Ytjfdcddjheandaa.Q
open Go Ovi
set_option maxRecDepth 1000000
theorem F5.eq (k : Nat) (call : CallF) (a0_0 : Ovi.Rows) (a0_1 : Ovi.Rows) : evFnK P hs call (5 : FuncId) k Try.f5 [AV.agg [AV.d (D.list 3 a0_0), AV.d (D.list 2 a0_1)]] = bindR (call 7 [AV.agg [AV.d (D.list 3 a0_0), AV.d (D.list 2 a0_1)], AV.d (D.int IntKind.i64 (1048576 : Int))]) fun r4 => bindI (resI IntKind.i64 1 false 1 r4 0 0) fun n5 => ite' (decide (n5 < (0 : Int))) (some ([(false, [RL.d (D.bool true)])])) (bindR (call 9 [AV.agg [AV.d (D.list 3 a0_0), AV.d (D.list 2 a0_1)]]) fun r6 => bindL (resO 87 3 1 true 2 r6 0 0) fun l7 => bindL (resO 59 2 1 true 2 r6 0 1) fun l8 => bindR (call 22 [AV.agg [AV.d (D.list 3 l7), AV.d (D.list 2 l8)]]) fun r9 => bindI (resI IntKind.i64 1 false 1 r9 0 0) fun n10 => bindR (call 9 [AV.agg [AV.d (D.list 3 a0_0), AV.d (D.list 2 a0_1)]]) fun r11 => bindL (resO 87 3 1 true 2 r11 0 0) fun l12 => bindL (resO 59 2 1 true 2 r11 0 1) fun l13 => bindR (call 23 [AV.agg [AV.d (D.list 3 l12), AV.d (D.list 2 l13)]]) fun r14 => bindI (resI IntKind.i64 1 false 1 r14 0 0) fun n15 => ite' (n15 != n10) (some ([(false, [RL.d (D.bool false)])])) (bindR (call 9 [AV.agg [AV.d (D.list 3 a0_0), AV.d (D.list 2 a0_1)]]) fun r16 => bindL (resO 87 3 1 true 2 r16 0 0) fun l17 => bindL (resO 59 2 1 true 2 r16 0 1) fun l18 => bindR (call 12 [AV.agg [AV.d (D.list 3 l12), AV.d (D.list 2 l13)], AV.agg [AV.d (D.list 3 l17), AV.d (D.list 2 l18)]]) fun r19 => bindB (resB 1 false 1 r19 0 0) fun b20 => ite' (!b20) (some ([(false, [RL.d (D.bool false)])])) (some ([(false, [RL.d (D.bool true)])])))) := by kernel_rfl
theorem F5.run (k : Nat) (a0_0 : Ovi.Rows) (a0_1 : Ovi.Rows) : C (k + 1) 5 [AV.agg [AV.d (D.list 3 a0_0), AV.d (D.list 2 a0_1)]] = bindR ((C k) 7 [AV.agg [AV.d (D.list 3 a0_0), AV.d (D.list 2 a0_1)], AV.d (D.int IntKind.i64 (1048576 : Int))]) fun r4 => bindI (resI IntKind.i64 1 false 1 r4 0 0) fun n5 => ite' (decide (n5 < (0 : Int))) (some ([(false, [RL.d (D.bool true)])])) (bindR ((C k) 9 [AV.agg [AV.d (D.list 3 a0_0), AV.d (D.list 2 a0_1)]]) fun r6 => bindL (resO 87 3 1 true 2 r6 0 0) fun l7 => bindL (resO 59 2 1 true 2 r6 0 1) fun l8 => bindR ((C k) 22 [AV.agg [AV.d (D.list 3 l7), AV.d (D.list 2 l8)]]) fun r9 => bindI (resI IntKind.i64 1 false 1 r9 0 0) fun n10 => bindR ((C k) 9 [AV.agg [AV.d (D.list 3 a0_0), AV.d (D.list 2 a0_1)]]) fun r11 => bindL (resO 87 3 1 true 2 r11 0 0) fun l12 => bindL (resO 59 2 1 true 2 r11 0 1) fun l13 => bindR ((C k) 23 [AV.agg [AV.d (D.list 3 l12), AV.d (D.list 2 l13)]]) fun r14 => bindI (resI IntKind.i64 1 false 1 r14 0 0) fun n15 => ite' (n15 != n10) (some ([(false, [RL.d (D.bool false)])])) (bindR ((C k) 9 [AV.agg [AV.d (D.list 3 a0_0), AV.d (D.list 2 a0_1)]]) fun r16 => bindL (resO 87 3 1 true 2 r16 0 0) fun l17 => bindL (resO 59 2 1 true 2 r16 0 1) fun l18 => bindR ((C k) 12 [AV.agg [AV.d (D.list 3 l12), AV.d (D.list 2 l13)], AV.agg [AV.d (D.list 3 l17), AV.d (D.list 2 l18)]]) fun r19 => bindB (resB 1 false 1 r19 0 0) fun b20 => ite' (!b20) (some ([(false, [RL.d (D.bool false)])])) (some ([(false, [RL.d (D.bool true)])])))) := (show C (k + 1) 5 [AV.agg [AV.d (D.list 3 a0_0), AV.d (D.list 2 a0_1)]] = evFnK P hs (C k) 5 k Try.f5 [AV.agg [AV.d (D.list 3 a0_0), AV.d (D.list 2 a0_1)]] by kernel_rfl).trans (F5.eq k (C k) a0_0 a0_1)
theorem F7.eq (k : Nat) (call : CallF) (a0_0 : Ovi.Rows) (a0_1 : Ovi.Rows) (a1 : Int) : evFnK P hs call (7 : FuncId) k Try.f7 [AV.agg [AV.d (D.list 3 a0_0), AV.d (D.list 2 a0_1)], AV.d (D.int IntKind.i64 a1)] = bindR (call 29 [AV.d (D.list 3 a0_0), AV.d (D.int IntKind.i64 a1)]) fun r5 => bindI (resI IntKind.i64 1 false 1 r5 0 0) fun n6 => ite' (decide (n6 < (0 : Int))) (some ([(false, [RL.d (D.int IntKind.i64 (-1 : Int))])])) (bindR (call 30 [AV.d (D.list 2 a0_1), AV.d (D.int IntKind.i64 n6)]) fun r7 => bindI (resI IntKind.i64 1 false 1 r7 0 0) fun n8 => ite' (decide (n8 < (0 : Int))) (some ([(false, [RL.d (D.int IntKind.i64 (-1 : Int))])])) (some ([(false, [RL.d (D.int IntKind.i64 n8)])]))) := by kernel_rfl
theorem F7.run (k : Nat) (a0_0 : Ovi.Rows) (a0_1 : Ovi.Rows) (a1 : Int) : C (k + 1) 7 [AV.agg [AV.d (D.list 3 a0_0), AV.d (D.list 2 a0_1)], AV.d (D.int IntKind.i64 a1)] = bindR ((C k) 29 [AV.d (D.list 3 a0_0), AV.d (D.int IntKind.i64 a1)]) fun r5 => bindI (resI IntKind.i64 1 false 1 r5 0 0) fun n6 => ite' (decide (n6 < (0 : Int))) (some ([(false, [RL.d (D.int IntKind.i64 (-1 : Int))])])) (bindR ((C k) 30 [AV.d (D.list 2 a0_1), AV.d (D.int IntKind.i64 n6)]) fun r7 => bindI (resI IntKind.i64 1 false 1 r7 0 0) fun n8 => ite' (decide (n8 < (0 : Int))) (some ([(false, [RL.d (D.int IntKind.i64 (-1 : Int))])])) (some ([(false, [RL.d (D.int IntKind.i64 n8)])]))) := (show C (k + 1) 7 [AV.agg [AV.d (D.list 3 a0_0), AV.d (D.list 2 a0_1)], AV.d (D.int IntKind.i64 a1)] = evFnK P hs (C k) 7 k Try.f7 [AV.agg [AV.d (D.list 3 a0_0), AV.d (D.list 2 a0_1)], AV.d (D.int IntKind.i64 a1)] by kernel_rfl).trans (F7.eq k (C k) a0_0 a0_1 a1)
theorem F9.eq (k : Nat) (call : CallF) (a0_0 : Ovi.Rows) (a0_1 : Ovi.Rows) : evFnK P hs call (9 : FuncId) k Try.f9 [AV.agg [AV.d (D.list 3 a0_0), AV.d (D.list 2 a0_1)]] = bindR (call 35 [AV.d (D.list 3 a0_0)]) fun r4 => bindL (resO 87 3 1 false 1 r4 0 0) fun l5 => bindR (call 36 [AV.d (D.list 2 a0_1)]) fun r6 => bindL (resO 59 2 1 false 1 r6 0 0) fun l7 => some ([(true, [RL.row 87 3 l5, RL.row 59 2 l7])]) := by kernel_rfl
theorem F9.run (k : Nat) (a0_0 : Ovi.Rows) (a0_1 : Ovi.Rows) : C (k + 1) 9 [AV.agg [AV.d (D.list 3 a0_0), AV.d (D.list 2 a0_1)]] = bindR ((C k) 35 [AV.d (D.list 3 a0_0)]) fun r4 => bindL (resO 87 3 1 false 1 r4 0 0) fun l5 => bindR ((C k) 36 [AV.d (D.list 2 a0_1)]) fun r6 => bindL (resO 59 2 1 false 1 r6 0 0) fun l7 => some ([(true, [RL.row 87 3 l5, RL.row 59 2 l7])]) := (show C (k + 1) 9 [AV.agg [AV.d (D.list 3 a0_0), AV.d (D.list 2 a0_1)]] = evFnK P hs (C k) 9 k Try.f9 [AV.agg [AV.d (D.list 3 a0_0), AV.d (D.list 2 a0_1)]] by kernel_rfl).trans (F9.eq k (C k) a0_0 a0_1)
noncomputable def F10.L3 (k : Nat) (call : CallF)  (n : Nat) (v0 : Ovi.Rows) (v1 : Int) (v2 : Ovi.Rows) : Option Res := loopFn P hs call 10 k Try.f10 [1, 1, 0, 1, 0] [] n [(0, AV.d (D.list 1 v0)), (3, AV.own 100003 0), (4, AV.d (D.int IntKind.i64 v1))] [(100003, Blk.arr 3 1 0 v2)]
theorem F10.L3.zero (k : Nat) (call : CallF)  (v0 : Ovi.Rows) (v1 : Int) (v2 : Ovi.Rows) : F10.L3 k call  0 v0 v1 v2 = none := by kernel_rfl
theorem F10.L3.succ (k : Nat) (call : CallF)  (n : Nat) (v0 : Ovi.Rows) (v1 : Int) (v2 : Ovi.Rows) : F10.L3 k call  (n + 1) v0 v1 v2 = ite' (decide (v1 < (↑(List.length v0) : Int))) (ite' (inR v1 (List.length v0)) (bindI (cellI IntKind.i64 v0 v1.toNat 0) fun n7 => ite' (inR v1 (List.length v2)) (F10.L3 k call  (n) (v0) (IntKind.i64.wrap (v1 + (1 : Int))) (rowsSet v2 v1.toNat 0 [D.int IntKind.i64 n7])) (none)) (none)) (some ([(false, [RL.row 3 1 v2])])) := by kernel_rfl
theorem F10.eq (k : Nat) (call : CallF) (a0 : Ovi.Rows) : evFnK P hs call (10 : FuncId) k Try.f10 [AV.d (D.list 1 a0)] = ite' ((↑(List.length a0) : Int) == (↑(List.length a0) : Int)) (ite' (inM (↑(List.length a0) : Int)) (F10.L3 k call  (k) (a0) ((0 : Int)) (rowsOf (↑(List.length a0) : Int) [D.int IntKind.i64 (0 : Int)])) (none)) (none) := by kernel_rfl
theorem F10.run (k : Nat) (a0 : Ovi.Rows) : C (k + 1) 10 [AV.d (D.list 1 a0)] = ite' ((↑(List.length a0) : Int) == (↑(List.length a0) : Int)) (ite' (inM (↑(List.length a0) : Int)) (F10.L3 k (C k)  (k) (a0) ((0 : Int)) (rowsOf (↑(List.length a0) : Int) [D.int IntKind.i64 (0 : Int)])) (none)) (none) := (show C (k + 1) 10 [AV.d (D.list 1 a0)] = evFnK P hs (C k) 10 k Try.f10 [AV.d (D.list 1 a0)] by kernel_rfl).trans (F10.eq k (C k) a0)
theorem F12.eq (k : Nat) (call : CallF) (a0_0 : Ovi.Rows) (a0_1 : Ovi.Rows) (a1_0 : Ovi.Rows) (a1_1 : Ovi.Rows) : evFnK P hs call (12 : FuncId) k Try.f12 [AV.agg [AV.d (D.list 3 a0_0), AV.d (D.list 2 a0_1)], AV.agg [AV.d (D.list 3 a1_0), AV.d (D.list 2 a1_1)]] = bindR (call 42 [AV.d (D.list 3 a0_0), AV.d (D.list 3 a1_0)]) fun r6 => bindB (resB 1 false 1 r6 0 0) fun b7 => ite' (!b7) (some ([(false, [RL.d (D.bool false)])])) (bindR (call 43 [AV.d (D.list 2 a0_1), AV.d (D.list 2 a1_1)]) fun r8 => bindB (resB 1 false 1 r8 0 0) fun b9 => ite' (!b9) (some ([(false, [RL.d (D.bool false)])])) (some ([(false, [RL.d (D.bool true)])]))) := by kernel_rfl
theorem F12.run (k : Nat) (a0_0 : Ovi.Rows) (a0_1 : Ovi.Rows) (a1_0 : Ovi.Rows) (a1_1 : Ovi.Rows) : C (k + 1) 12 [AV.agg [AV.d (D.list 3 a0_0), AV.d (D.list 2 a0_1)], AV.agg [AV.d (D.list 3 a1_0), AV.d (D.list 2 a1_1)]] = bindR ((C k) 42 [AV.d (D.list 3 a0_0), AV.d (D.list 3 a1_0)]) fun r6 => bindB (resB 1 false 1 r6 0 0) fun b7 => ite' (!b7) (some ([(false, [RL.d (D.bool false)])])) (bindR ((C k) 43 [AV.d (D.list 2 a0_1), AV.d (D.list 2 a1_1)]) fun r8 => bindB (resB 1 false 1 r8 0 0) fun b9 => ite' (!b9) (some ([(false, [RL.d (D.bool false)])])) (some ([(false, [RL.d (D.bool true)])]))) := (show C (k + 1) 12 [AV.agg [AV.d (D.list 3 a0_0), AV.d (D.list 2 a0_1)], AV.agg [AV.d (D.list 3 a1_0), AV.d (D.list 2 a1_1)]] = evFnK P hs (C k) 12 k Try.f12 [AV.agg [AV.d (D.list 3 a0_0), AV.d (D.list 2 a0_1)], AV.agg [AV.d (D.list 3 a1_0), AV.d (D.list 2 a1_1)]] by kernel_rfl).trans (F12.eq k (C k) a0_0 a0_1 a1_0 a1_1)
noncomputable def F13.L4 (k : Nat) (call : CallF)  (n : Nat) (v0 : Ovi.Rows) (v1 : Ovi.Rows) (v2 : Int) : Option Res := loopFn P hs call 13 k Try.f13 [1, 1, 0, 1, 0] [] n [(0, AV.d (D.list 1 v0)), (1, AV.d (D.list 1 v1)), (5, AV.d (D.int IntKind.i64 v2))] []
theorem F13.L4.zero (k : Nat) (call : CallF)  (v0 : Ovi.Rows) (v1 : Ovi.Rows) (v2 : Int) : F13.L4 k call  0 v0 v1 v2 = none := by kernel_rfl
theorem F13.L4.succ (k : Nat) (call : CallF)  (n : Nat) (v0 : Ovi.Rows) (v1 : Ovi.Rows) (v2 : Int) : F13.L4 k call  (n + 1) v0 v1 v2 = ite' (decide (v2 < (↑(List.length v0) : Int))) (ite' (inR v2 (List.length v0)) (bindI (cellI IntKind.i64 v0 v2.toNat 0) fun n8 => ite' (inR v2 (List.length v1)) (bindI (cellI IntKind.i64 v1 v2.toNat 0) fun n9 => ite' (n8 != n9) (some ([(false, [RL.d (D.bool false)])])) (F13.L4 k call  (n) (v0) (v1) (IntKind.i64.wrap (v2 + (1 : Int))))) (none)) (none)) (some ([(false, [RL.d (D.bool true)])])) := by kernel_rfl
theorem F13.eq (k : Nat) (call : CallF) (a0 : Ovi.Rows) (a1 : Ovi.Rows) : evFnK P hs call (13 : FuncId) k Try.f13 [AV.d (D.list 1 a0), AV.d (D.list 1 a1)] = ite' ((↑(List.length a0) : Int) != (↑(List.length a1) : Int)) (some ([(false, [RL.d (D.bool false)])])) (F13.L4 k call  (k) (a0) (a1) ((0 : Int))) := by kernel_rfl
theorem F13.run (k : Nat) (a0 : Ovi.Rows) (a1 : Ovi.Rows) : C (k + 1) 13 [AV.d (D.list 1 a0), AV.d (D.list 1 a1)] = ite' ((↑(List.length a0) : Int) != (↑(List.length a1) : Int)) (some ([(false, [RL.d (D.bool false)])])) (F13.L4 k (C k)  (k) (a0) (a1) ((0 : Int))) := (show C (k + 1) 13 [AV.d (D.list 1 a0), AV.d (D.list 1 a1)] = evFnK P hs (C k) 13 k Try.f13 [AV.d (D.list 1 a0), AV.d (D.list 1 a1)] by kernel_rfl).trans (F13.eq k (C k) a0 a1)
noncomputable def F22.L4 (k : Nat) (call : CallF)  (n : Nat) (v0 : Int) (v1 : Int) (v2 : Ovi.Rows) : Option Res := loopFn P hs call 22 k Try.f22 [1, 1, 1, 0, 1, 0] [] n [(3, AV.d (D.int IntKind.i64 v0)), (4, AV.own 100004 0), (5, AV.d (D.int IntKind.i64 v1))] [(100004, Blk.arr 26 1 0 v2)]
theorem F22.L4.zero (k : Nat) (call : CallF)  (v0 : Int) (v1 : Int) (v2 : Ovi.Rows) : F22.L4 k call  0 v0 v1 v2 = none := by kernel_rfl
theorem F22.L4.succ (k : Nat) (call : CallF)  (n : Nat) (v0 : Int) (v1 : Int) (v2 : Ovi.Rows) : F22.L4 k call  (n + 1) v0 v1 v2 = ite' (decide (v1 < (↑(List.length v2) : Int))) (ite' (inR v1 (List.length v2)) (bindL (cellL 1 v2 v1.toNat 0) fun l8 => F22.L4 k call  (n) (maxI v0 (↑(List.length l8) : Int)) (IntKind.i64.wrap (v1 + (1 : Int))) (v2)) (none)) (some ([(false, [RL.d (D.int IntKind.i64 v0)])])) := by kernel_rfl
theorem F22.eq (k : Nat) (call : CallF) (a0_0 : Ovi.Rows) (a0_1 : Ovi.Rows) : evFnK P hs call (22 : FuncId) k Try.f22 [AV.agg [AV.d (D.list 3 a0_0), AV.d (D.list 2 a0_1)]] = bindR (call 24 [AV.agg [AV.d (D.list 3 a0_0), AV.d (D.list 2 a0_1)]]) fun r4 => bindL (resO 26 1 1 false 1 r4 0 0) fun l5 => F22.L4 k call  (k) ((0 : Int)) ((0 : Int)) (l5) := by kernel_rfl
theorem F22.run (k : Nat) (a0_0 : Ovi.Rows) (a0_1 : Ovi.Rows) : C (k + 1) 22 [AV.agg [AV.d (D.list 3 a0_0), AV.d (D.list 2 a0_1)]] = bindR ((C k) 24 [AV.agg [AV.d (D.list 3 a0_0), AV.d (D.list 2 a0_1)]]) fun r4 => bindL (resO 26 1 1 false 1 r4 0 0) fun l5 => F22.L4 k (C k)  (k) ((0 : Int)) ((0 : Int)) (l5) := (show C (k + 1) 22 [AV.agg [AV.d (D.list 3 a0_0), AV.d (D.list 2 a0_1)]] = evFnK P hs (C k) 22 k Try.f22 [AV.agg [AV.d (D.list 3 a0_0), AV.d (D.list 2 a0_1)]] by kernel_rfl).trans (F22.eq k (C k) a0_0 a0_1)
noncomputable def F23.L3 (k : Nat) (call : CallF)  (n : Nat) (v0 : Int) (v1 : Int) (v2 : Int) (v3 : Ovi.Rows) : Option Res := loopFn P hs call 23 k Try.f23 [1, 1, 0, 1, 0] [] n [(3, AV.d (D.int IntKind.i64 v0)), (7, AV.own 100007 0), (8, AV.d (D.int IntKind.i64 v1)), (9, AV.d (D.int IntKind.i64 v2))] [(100007, Blk.arr 26 1 0 v3)]
theorem F23.L3.zero (k : Nat) (call : CallF)  (v0 : Int) (v1 : Int) (v2 : Int) (v3 : Ovi.Rows) : F23.L3 k call  0 v0 v1 v2 v3 = none := by kernel_rfl
theorem F23.L3.succ (k : Nat) (call : CallF)  (n : Nat) (v0 : Int) (v1 : Int) (v2 : Int) (v3 : Ovi.Rows) : F23.L3 k call  (n + 1) v0 v1 v2 v3 = ite' (decide (v2 < v1)) (ite' (inR v2 (List.length v3)) (bindL (cellL 1 v3 v2.toNat 0) fun l9 => F23.L3 k call  (n) (maxI v0 (↑(List.length l9) : Int)) (v1) (IntKind.i64.wrap (v2 + (1 : Int))) (v3)) (none)) (some ([(false, [RL.d (D.int IntKind.i64 v0)])])) := by kernel_rfl
theorem F23.eq (k : Nat) (call : CallF) (a0_0 : Ovi.Rows) (a0_1 : Ovi.Rows) : evFnK P hs call (23 : FuncId) k Try.f23 [AV.agg [AV.d (D.list 3 a0_0), AV.d (D.list 2 a0_1)]] = bindR (call 25 [AV.agg [AV.d (D.list 3 a0_0), AV.d (D.list 2 a0_1)]]) fun r4 => bindL (resO 26 1 1 false 1 r4 0 0) fun l5 => F23.L3 k call  (k) ((0 : Int)) ((↑(List.length l5) : Int)) ((0 : Int)) (l5) := by kernel_rfl
theorem F23.run (k : Nat) (a0_0 : Ovi.Rows) (a0_1 : Ovi.Rows) : C (k + 1) 23 [AV.agg [AV.d (D.list 3 a0_0), AV.d (D.list 2 a0_1)]] = bindR ((C k) 25 [AV.agg [AV.d (D.list 3 a0_0), AV.d (D.list 2 a0_1)]]) fun r4 => bindL (resO 26 1 1 false 1 r4 0 0) fun l5 => F23.L3 k (C k)  (k) ((0 : Int)) ((↑(List.length l5) : Int)) ((0 : Int)) (l5) := (show C (k + 1) 23 [AV.agg [AV.d (D.list 3 a0_0), AV.d (D.list 2 a0_1)]] = evFnK P hs (C k) 23 k Try.f23 [AV.agg [AV.d (D.list 3 a0_0), AV.d (D.list 2 a0_1)]] by kernel_rfl).trans (F23.eq k (C k) a0_0 a0_1)
noncomputable def F24.L7 (k : Nat) (call : CallF)  (n : Nat) (v0 : Ovi.Rows) (v1 : Int) (v2 : Ovi.Rows) (v3 : Ovi.Rows) (v4 : List (List D)) (v5 : List (List D)) : Option Res := loopFn P hs call 24 k Try.f24 [1, 1, 1, 1, 1, 0, 1, 0] [] n [(1, AV.var 64 0), (3, AV.own 100003 0), (4, AV.d (D.list 1 v0)), (5, AV.own 100005 0), (6, AV.d (D.int IntKind.i64 v1))] [(64, Blk.var [AV.d (D.list 3 v2), AV.d (D.list 2 v3)]), (100003, Blk.arr 26 1 0 v4), (100005, Blk.arr 3 1 0 v5)]
noncomputable def F24.L11 (k : Nat) (call : CallF)  (n : Nat) (v0 : Ovi.Rows) (v1 : Int) (v2 : Ovi.Rows) (v3 : Ovi.Rows) (v4 : List (List D)) (v5 : List (List D)) : Option Res := loopFn P hs call 24 k Try.f24 [1, 1, 1, 1, 1, 1, 0, 1, 0] [] n [(1, AV.var 64 0), (3, AV.own 100003 0), (4, AV.d (D.list 1 v0)), (5, AV.own 100005 0), (7, AV.d (D.int IntKind.i64 v1))] [(64, Blk.var [AV.d (D.list 3 v2), AV.d (D.list 2 v3)]), (100003, Blk.arr 26 1 0 v4), (100005, Blk.arr 3 1 0 v5)]
noncomputable def F24.L14 (k : Nat) (call : CallF) (k11 : Nat) (n : Nat) (v0 : Ovi.Rows) (v1 : Int) (v2 : Int) (v3 : Ovi.Rows) (v4 : Ovi.Rows) (v5 : List (List D)) (v6 : List (List D)) : Option Res := loopFn P hs call 24 k Try.f24 [1, 1, 1, 1, 1, 1, 0, 1, 0, 0, 1, 0, 0, 1, 0] [k11] n [(1, AV.var 64 0), (3, AV.own 100003 0), (4, AV.d (D.list 1 v0)), (5, AV.own 100005 0), (7, AV.d (D.int IntKind.i64 v1)), (8, AV.d (D.int IntKind.i64 v2))] [(64, Blk.var [AV.d (D.list 3 v3), AV.d (D.list 2 v4)]), (100003, Blk.arr 26 1 0 v5), (100005, Blk.arr 3 1 0 v6)]
noncomputable def F24.L27 (k : Nat) (call : CallF)  (n : Nat) (v0 : Ovi.Rows) (v1 : Int) (v2 : List (List D)) (v3 : List (List D)) : Option Res := loopFn P hs call 24 k Try.f24 [1, 1, 1, 1, 1, 1, 1, 0, 1, 0] [] n [(3, AV.own 100003 0), (4, AV.d (D.list 1 v0)), (5, AV.own 100005 0), (13, AV.d (D.int IntKind.i64 v1))] [(100003, Blk.arr 26 1 0 v2), (100005, Blk.arr 3 1 0 v3)]
noncomputable def F24.L19 (k : Nat) (call : CallF) (k11 : Nat) (k14 : Nat) (n : Nat) (v0 : Ovi.Rows) (v1 : Int) (v2 : Int) (v3 : Ovi.Rows) (v4 : Int) (v5 : Int) (v6 : Ovi.Rows) (v7 : Ovi.Rows) (v8 : List (List D)) (v9 : List (List D)) : Option Res := loopFn P hs call 24 k Try.f24 [1, 1, 1, 1, 1, 1, 0, 1, 0, 0, 1, 0, 0, 1, 0, 0, 1, 0, 0, 1, 1, 0, 1, 0] [k11, k14] n [(1, AV.var 64 0), (3, AV.own 100003 0), (4, AV.d (D.list 1 v0)), (5, AV.own 100005 0), (7, AV.d (D.int IntKind.i64 v1)), (8, AV.d (D.int IntKind.i64 v2)), (9, AV.d (D.list 1 v3)), (10, AV.d (D.int IntKind.i64 v4)), (11, AV.d (D.int IntKind.i64 v5))] [(64, Blk.var [AV.d (D.list 3 v6), AV.d (D.list 2 v7)]), (100003, Blk.arr 26 1 0 v8), (100005, Blk.arr 3 1 0 v9)]
noncomputable def F24.L31 (k : Nat) (call : CallF) (k27 : Nat) (n : Nat) (v0 : Ovi.Rows) (v1 : Int) (v2 : Int) (v3 : List (List D)) (v4 : List (List D)) (v5 : List (List D)) : Option Res := loopFn P hs call 24 k Try.f24 [1, 1, 1, 1, 1, 1, 1, 0, 1, 0, 0, 1, 0, 0, 1, 0, 1, 0] [k27] n [(3, AV.own 100003 0), (4, AV.d (D.list 1 v0)), (5, AV.own 100005 0), (13, AV.d (D.int IntKind.i64 v1)), (14, AV.own 100014 0), (15, AV.d (D.int IntKind.i64 v2))] [(100003, Blk.arr 26 1 0 v3), (100005, Blk.arr 3 1 0 v4), (100014, Blk.arr 3 1 0 v5)]
noncomputable def F24.L23 (k : Nat) (call : CallF) (k11 : Nat) (k14 : Nat) (n : Nat) (v0 : Ovi.Rows) (v1 : Int) (v2 : Int) (v3 : Ovi.Rows) (v4 : Int) (v5 : Int) (v6 : Ovi.Rows) (v7 : Ovi.Rows) (v8 : List (List D)) (v9 : List (List D)) : Option Res := loopFn P hs call 24 k Try.f24 [1, 1, 1, 1, 1, 1, 0, 1, 0, 0, 1, 0, 0, 1, 0, 0, 1, 0, 0, 1, 1, 1, 1, 0] [k11, k14] n [(1, AV.var 64 0), (3, AV.own 100003 0), (4, AV.d (D.list 1 v0)), (5, AV.own 100005 0), (7, AV.d (D.int IntKind.i64 v1)), (8, AV.d (D.int IntKind.i64 v2)), (9, AV.d (D.list 1 v3)), (10, AV.d (D.int IntKind.i64 v4)), (12, AV.d (D.int IntKind.i64 v5))] [(64, Blk.var [AV.d (D.list 3 v6), AV.d (D.list 2 v7)]), (100003, Blk.arr 26 1 0 v8), (100005, Blk.arr 3 1 0 v9)]
theorem F24.L7.zero (k : Nat) (call : CallF)  (v0 : Ovi.Rows) (v1 : Int) (v2 : Ovi.Rows) (v3 : Ovi.Rows) (v4 : List (List D)) (v5 : List (List D)) : F24.L7 k call  0 v0 v1 v2 v3 v4 v5 = none := by kernel_rfl
theorem F24.L7.succ (k : Nat) (call : CallF)  (n : Nat) (v0 : Ovi.Rows) (v1 : Int) (v2 : Ovi.Rows) (v3 : Ovi.Rows) (v4 : List (List D)) (v5 : List (List D)) : F24.L7 k call  (n + 1) v0 v1 v2 v3 v4 v5 = ite' (decide (v1 < (40 : Int))) (ite' (inR v1 v5.length) (F24.L7 k call  (n) (v0) (IntKind.i64.wrap (v1 + (1 : Int))) (v2) (v3) (v4) (rowsSet v5 v1.toNat 0 [D.int IntKind.i64 v1])) (none)) (F24.L11 k call  (k) (v0) ((0 : Int)) (v2) (v3) (v4) (v5)) := by kernel_rfl
theorem F24.L11.zero (k : Nat) (call : CallF)  (v0 : Ovi.Rows) (v1 : Int) (v2 : Ovi.Rows) (v3 : Ovi.Rows) (v4 : List (List D)) (v5 : List (List D)) : F24.L11 k call  0 v0 v1 v2 v3 v4 v5 = none := by kernel_rfl
theorem F24.L11.succ (k : Nat) (call : CallF)  (n : Nat) (v0 : Ovi.Rows) (v1 : Int) (v2 : Ovi.Rows) (v3 : Ovi.Rows) (v4 : List (List D)) (v5 : List (List D)) : F24.L11 k call  (n + 1) v0 v1 v2 v3 v4 v5 = ite' (decide (v1 < (↑(List.length v0) : Int))) (F24.L14 k call n (k) (v0) (v1) ((0 : Int)) (v2) (v3) (v4) (v5)) (F24.L27 k call  (k) (v0) ((0 : Int)) (v4) (v5)) := by kernel_rfl
theorem F24.L14.zero (k : Nat) (call : CallF) (k11 : Nat) (v0 : Ovi.Rows) (v1 : Int) (v2 : Int) (v3 : Ovi.Rows) (v4 : Ovi.Rows) (v5 : List (List D)) (v6 : List (List D)) : F24.L14 k call k11 0 v0 v1 v2 v3 v4 v5 v6 = none := by kernel_rfl
theorem F24.L14.succ (k : Nat) (call : CallF) (k11 : Nat) (n : Nat) (v0 : Ovi.Rows) (v1 : Int) (v2 : Int) (v3 : Ovi.Rows) (v4 : Ovi.Rows) (v5 : List (List D)) (v6 : List (List D)) : F24.L14 k call k11 (n + 1) v0 v1 v2 v3 v4 v5 v6 = ite' (decide (v2 < (↑(List.length v4) : Int))) (ite' (inR v2 (List.length v4)) (bindI (cellI IntKind.i64 v4 v2.toNat 0) fun n13 => bindL (cellL 1 v4 v2.toNat 1) fun l14 => bindR (call 32 [AV.agg [AV.d (D.int IntKind.i64 n13), AV.d (D.list 1 l14)]]) fun r15 => bindL (resL 1 1 false 1 r15 0 0) fun l16 => F24.L19 k call k11 n (k) (v0) (v1) (v2) (l16) ((40 : Int)) ((0 : Int)) (v3) (v4) (v5) (v6)) (none)) (F24.L11 k call  (k11) (v0) (IntKind.i64.wrap (v1 + (1 : Int))) (v3) (v4) (v5) (v6)) := by kernel_rfl
theorem F24.L27.zero (k : Nat) (call : CallF)  (v0 : Ovi.Rows) (v1 : Int) (v2 : List (List D)) (v3 : List (List D)) : F24.L27 k call  0 v0 v1 v2 v3 = none := by kernel_rfl
theorem F24.L27.succ (k : Nat) (call : CallF)  (n : Nat) (v0 : Ovi.Rows) (v1 : Int) (v2 : List (List D)) (v3 : List (List D)) : F24.L27 k call  (n + 1) v0 v1 v2 v3 = ite' (decide (v1 < (↑(List.length v0) : Int))) (F24.L31 k call n (k) (v0) (v1) ((0 : Int)) (v2) (v3) ([])) (some ([(false, [RL.row 26 1 v2])])) := by kernel_rfl
theorem F24.L19.zero (k : Nat) (call : CallF) (k11 : Nat) (k14 : Nat) (v0 : Ovi.Rows) (v1 : Int) (v2 : Int) (v3 : Ovi.Rows) (v4 : Int) (v5 : Int) (v6 : Ovi.Rows) (v7 : Ovi.Rows) (v8 : List (List D)) (v9 : List (List D)) : F24.L19 k call k11 k14 0 v0 v1 v2 v3 v4 v5 v6 v7 v8 v9 = none := by kernel_rfl
theorem F24.L19.succ (k : Nat) (call : CallF) (k11 : Nat) (k14 : Nat) (n : Nat) (v0 : Ovi.Rows) (v1 : Int) (v2 : Int) (v3 : Ovi.Rows) (v4 : Int) (v5 : Int) (v6 : Ovi.Rows) (v7 : Ovi.Rows) (v8 : List (List D)) (v9 : List (List D)) : F24.L19 k call k11 k14 (n + 1) v0 v1 v2 v3 v4 v5 v6 v7 v8 v9 = ite' (decide (v5 < (↑(List.length v3) : Int))) (ite' (inR v5 (List.length v3)) (bindI (cellI IntKind.i64 v3 v5.toNat 0) fun n17 => ite' (inR n17 v9.length) (bindI (cellI IntKind.i64 v9 n17.toNat 0) fun n18 => F24.L19 k call k11 k14 (n) (v0) (v1) (v2) (v3) (minI v4 n18) (IntKind.i64.wrap (v5 + (1 : Int))) (v6) (v7) (v8) (v9)) (none)) (none)) (F24.L23 k call k11 k14 (k) (v0) (v1) (v2) (v3) (v4) ((0 : Int)) (v6) (v7) (v8) (v9)) := by kernel_rfl
theorem F24.L31.zero (k : Nat) (call : CallF) (k27 : Nat) (v0 : Ovi.Rows) (v1 : Int) (v2 : Int) (v3 : List (List D)) (v4 : List (List D)) (v5 : List (List D)) : F24.L31 k call k27 0 v0 v1 v2 v3 v4 v5 = none := by kernel_rfl
theorem F24.L31.succ (k : Nat) (call : CallF) (k27 : Nat) (n : Nat) (v0 : Ovi.Rows) (v1 : Int) (v2 : Int) (v3 : List (List D)) (v4 : List (List D)) (v5 : List (List D)) : F24.L31 k call k27 (n + 1) v0 v1 v2 v3 v4 v5 = ite' (decide (v2 < (↑(List.length v0) : Int))) (ite' (inR v2 (List.length v0)) (bindI (cellI IntKind.i64 v0 v2.toNat 0) fun n12 => ite' (inR n12 v4.length) (bindI (cellI IntKind.i64 v4 n12.toNat 0) fun n13 => ite' (inR v1 (List.length v0)) (bindI (cellI IntKind.i64 v0 v1.toNat 0) fun n14 => ite' (n13 == n14) (ite' (inR v2 (List.length v0)) (bindI (cellI IntKind.i64 v0 v2.toNat 0) fun n15 => ite' (fits (v5.length + [[D.int IntKind.i64 n15]].length)) (F24.L31 k call k27 (n) (v0) (v1) (IntKind.i64.wrap (v2 + (1 : Int))) (v3) (v4) (v5 ++ [[D.int IntKind.i64 n15]])) (none)) (none)) (F24.L31 k call k27 (n) (v0) (v1) (IntKind.i64.wrap (v2 + (1 : Int))) (v3) (v4) (v5))) (none)) (none)) (none)) (ite' (decide ((↑v5.length : Int) > (0 : Int))) (ite' (fits (v3.length + [[D.list 1 v5]].length)) (F24.L27 k call  (k27) (v0) (IntKind.i64.wrap (v1 + (1 : Int))) (v3 ++ [[D.list 1 v5]]) (v4)) (none)) (F24.L27 k call  (k27) (v0) (IntKind.i64.wrap (v1 + (1 : Int))) (v3) (v4))) := by kernel_rfl
theorem F24.L23.zero (k : Nat) (call : CallF) (k11 : Nat) (k14 : Nat) (v0 : Ovi.Rows) (v1 : Int) (v2 : Int) (v3 : Ovi.Rows) (v4 : Int) (v5 : Int) (v6 : Ovi.Rows) (v7 : Ovi.Rows) (v8 : List (List D)) (v9 : List (List D)) : F24.L23 k call k11 k14 0 v0 v1 v2 v3 v4 v5 v6 v7 v8 v9 = none := by kernel_rfl
theorem F24.L23.succ (k : Nat) (call : CallF) (k11 : Nat) (k14 : Nat) (n : Nat) (v0 : Ovi.Rows) (v1 : Int) (v2 : Int) (v3 : Ovi.Rows) (v4 : Int) (v5 : Int) (v6 : Ovi.Rows) (v7 : Ovi.Rows) (v8 : List (List D)) (v9 : List (List D)) : F24.L23 k call k11 k14 (n + 1) v0 v1 v2 v3 v4 v5 v6 v7 v8 v9 = ite' (decide (v5 < (↑(List.length v3) : Int))) (ite' (inR v5 (List.length v3)) (bindI (cellI IntKind.i64 v3 v5.toNat 0) fun n17 => ite' (inR n17 v9.length) (F24.L23 k call k11 k14 (n) (v0) (v1) (v2) (v3) (v4) (IntKind.i64.wrap (v5 + (1 : Int))) (v6) (v7) (v8) (rowsSet v9 n17.toNat 0 [D.int IntKind.i64 v4])) (none)) (none)) (F24.L14 k call k11 (k14) (v0) (v1) (IntKind.i64.wrap (v2 + (1 : Int))) (v6) (v7) (v8) (v9)) := by kernel_rfl
theorem F24.eq (k : Nat) (call : CallF) (a0_0 : Ovi.Rows) (a0_1 : Ovi.Rows) : evFnK P hs call (24 : FuncId) k Try.f24 [AV.agg [AV.d (D.list 3 a0_0), AV.d (D.list 2 a0_1)]] = bindR (call 31 [AV.agg [AV.d (D.list 3 a0_0), AV.d (D.list 2 a0_1)]]) fun r4 => bindB (resB 1 false 1 r4 0 0) fun b5 => ite' (!b5) (some ([(false, [RL.nil])])) (bindR (call 54 [AV.agg [AV.d (D.list 3 a0_0), AV.d (D.list 2 a0_1)]]) fun r6 => bindL (resL 1 1 false 1 r6 0 0) fun l7 => F24.L7 k call  (k) (l7) ((0 : Int)) (a0_0) (a0_1) ([]) ([[D.int IntKind.i64 (0 : Int)], [D.int IntKind.i64 (0 : Int)], [D.int IntKind.i64 (0 : Int)], [D.int IntKind.i64 (0 : Int)], [D.int IntKind.i64 (0 : Int)], [D.int IntKind.i64 (0 : Int)], [D.int IntKind.i64 (0 : Int)], [D.int IntKind.i64 (0 : Int)], [D.int IntKind.i64 (0 : Int)], [D.int IntKind.i64 (0 : Int)], [D.int IntKind.i64 (0 : Int)], [D.int IntKind.i64 (0 : Int)], [D.int IntKind.i64 (0 : Int)], [D.int IntKind.i64 (0 : Int)], [D.int IntKind.i64 (0 : Int)], [D.int IntKind.i64 (0 : Int)], [D.int IntKind.i64 (0 : Int)], [D.int IntKind.i64 (0 : Int)], [D.int IntKind.i64 (0 : Int)], [D.int IntKind.i64 (0 : Int)], [D.int IntKind.i64 (0 : Int)], [D.int IntKind.i64 (0 : Int)], [D.int IntKind.i64 (0 : Int)], [D.int IntKind.i64 (0 : Int)], [D.int IntKind.i64 (0 : Int)], [D.int IntKind.i64 (0 : Int)], [D.int IntKind.i64 (0 : Int)], [D.int IntKind.i64 (0 : Int)], [D.int IntKind.i64 (0 : Int)], [D.int IntKind.i64 (0 : Int)], [D.int IntKind.i64 (0 : Int)], [D.int IntKind.i64 (0 : Int)], [D.int IntKind.i64 (0 : Int)], [D.int IntKind.i64 (0 : Int)], [D.int IntKind.i64 (0 : Int)], [D.int IntKind.i64 (0 : Int)], [D.int IntKind.i64 (0 : Int)], [D.int IntKind.i64 (0 : Int)], [D.int IntKind.i64 (0 : Int)], [D.int IntKind.i64 (0 : Int)]])) := by kernel_rfl
theorem F24.run (k : Nat) (a0_0 : Ovi.Rows) (a0_1 : Ovi.Rows) : C (k + 1) 24 [AV.agg [AV.d (D.list 3 a0_0), AV.d (D.list 2 a0_1)]] = bindR ((C k) 31 [AV.agg [AV.d (D.list 3 a0_0), AV.d (D.list 2 a0_1)]]) fun r4 => bindB (resB 1 false 1 r4 0 0) fun b5 => ite' (!b5) (some ([(false, [RL.nil])])) (bindR ((C k) 54 [AV.agg [AV.d (D.list 3 a0_0), AV.d (D.list 2 a0_1)]]) fun r6 => bindL (resL 1 1 false 1 r6 0 0) fun l7 => F24.L7 k (C k)  (k) (l7) ((0 : Int)) (a0_0) (a0_1) ([]) ([[D.int IntKind.i64 (0 : Int)], [D.int IntKind.i64 (0 : Int)], [D.int IntKind.i64 (0 : Int)], [D.int IntKind.i64 (0 : Int)], [D.int IntKind.i64 (0 : Int)], [D.int IntKind.i64 (0 : Int)], [D.int IntKind.i64 (0 : Int)], [D.int IntKind.i64 (0 : Int)], [D.int IntKind.i64 (0 : Int)], [D.int IntKind.i64 (0 : Int)], [D.int IntKind.i64 (0 : Int)], [D.int IntKind.i64 (0 : Int)], [D.int IntKind.i64 (0 : Int)], [D.int IntKind.i64 (0 : Int)], [D.int IntKind.i64 (0 : Int)], [D.int IntKind.i64 (0 : Int)], [D.int IntKind.i64 (0 : Int)], [D.int IntKind.i64 (0 : Int)], [D.int IntKind.i64 (0 : Int)], [D.int IntKind.i64 (0 : Int)], [D.int IntKind.i64 (0 : Int)], [D.int IntKind.i64 (0 : Int)], [D.int IntKind.i64 (0 : Int)], [D.int IntKind.i64 (0 : Int)], [D.int IntKind.i64 (0 : Int)], [D.int IntKind.i64 (0 : Int)], [D.int IntKind.i64 (0 : Int)], [D.int IntKind.i64 (0 : Int)], [D.int IntKind.i64 (0 : Int)], [D.int IntKind.i64 (0 : Int)], [D.int IntKind.i64 (0 : Int)], [D.int IntKind.i64 (0 : Int)], [D.int IntKind.i64 (0 : Int)], [D.int IntKind.i64 (0 : Int)], [D.int IntKind.i64 (0 : Int)], [D.int IntKind.i64 (0 : Int)], [D.int IntKind.i64 (0 : Int)], [D.int IntKind.i64 (0 : Int)], [D.int IntKind.i64 (0 : Int)], [D.int IntKind.i64 (0 : Int)]])) := (show C (k + 1) 24 [AV.agg [AV.d (D.list 3 a0_0), AV.d (D.list 2 a0_1)]] = evFnK P hs (C k) 24 k Try.f24 [AV.agg [AV.d (D.list 3 a0_0), AV.d (D.list 2 a0_1)]] by kernel_rfl).trans (F24.eq k (C k) a0_0 a0_1)
noncomputable def F25.L5 (k : Nat) (call : CallF)  (n : Nat) (v0 : Ovi.Rows) (v1 : Int) (v2 : Int) (v3 : List (List D)) : Option Res := loopFn P hs call 25 k Try.f25 [1, 1, 1, 0, 1, 0] [] n [(3, AV.own 100003 0), (16, AV.d (D.list 2 v0)), (17, AV.d (D.int IntKind.i64 v1)), (18, AV.d (D.int IntKind.i64 v2))] [(100003, Blk.arr 26 1 0 v3)]
noncomputable def F25.L11 (k : Nat) (call : CallF) (k5 : Nat) (n : Nat) (v0 : Ovi.Rows) (v1 : Int) (v2 : Int) (v3 : Int) (v4 : Int) (v5 : Ovi.Rows) (v6 : List (List D)) (v7 : List (List D)) : Option Res := loopFn P hs call 25 k Try.f25 [1, 1, 1, 0, 1, 0, 0, 1, 1, 0, 0, 1, 1, 1, 1, 0, 1, 0] [k5] n [(6, AV.var 384 0), (7, AV.own 100007 0), (16, AV.d (D.list 2 v0)), (17, AV.d (D.int IntKind.i64 v1)), (18, AV.d (D.int IntKind.i64 v2)), (28, AV.own 100028 0), (29, AV.d (D.int IntKind.i64 v3)), (30, AV.d (D.int IntKind.i64 v4))] [(384, Blk.var [AV.own 200096 0]), (200096, Blk.arr 3 1 0 v5), (100007, Blk.arr 26 1 0 v6), (100028, Blk.arr 26 1 0 v7)]
theorem F25.L5.zero (k : Nat) (call : CallF)  (v0 : Ovi.Rows) (v1 : Int) (v2 : Int) (v3 : List (List D)) : F25.L5 k call  0 v0 v1 v2 v3 = none := by kernel_rfl
theorem F25.L5.succ (k : Nat) (call : CallF)  (n : Nat) (v0 : Ovi.Rows) (v1 : Int) (v2 : Int) (v3 : List (List D)) : F25.L5 k call  (n + 1) v0 v1 v2 v3 = ite' (decide (v2 < v1)) (ite' (inR v2 (List.length v0)) (bindI (cellI IntKind.i64 v0 v2.toNat 0) fun n9 => bindL (cellL 1 v0 v2.toNat 1) fun l10 => bindR (call 55 [AV.agg [AV.d (D.int IntKind.i64 n9), AV.d (D.list 1 l10)]]) fun r11 => bindL (resO 3 1 1 false 1 r11 0 0) fun l12 => ite' ((↑(List.length l12) : Int) == (0 : Int)) (F25.L5 k call  (n) (v0) (v1) (IntKind.i64.wrap (v2 + (1 : Int))) (v3)) (F25.L11 k call n (k) (v0) (v1) (v2) ((↑v3.length : Int)) ((0 : Int)) (l12) ([]) (v3))) (none)) (bindR (call 61 [AV.var 0 0, AV.d (D.int IntKind.i64 (↑26 : Int)), AV.d (D.list 1 v3), AV.d (D.fn 62 [])]) fun r9 => bindL (resO 26 1 1 false 1 r9 0 0) fun l10 => some ([(false, [RL.row 26 1 l10])])) := by kernel_rfl
theorem F25.L11.zero (k : Nat) (call : CallF) (k5 : Nat) (v0 : Ovi.Rows) (v1 : Int) (v2 : Int) (v3 : Int) (v4 : Int) (v5 : Ovi.Rows) (v6 : List (List D)) (v7 : List (List D)) : F25.L11 k call k5 0 v0 v1 v2 v3 v4 v5 v6 v7 = none := by kernel_rfl
theorem F25.L11.succ (k : Nat) (call : CallF) (k5 : Nat) (n : Nat) (v0 : Ovi.Rows) (v1 : Int) (v2 : Int) (v3 : Int) (v4 : Int) (v5 : Ovi.Rows) (v6 : List (List D)) (v7 : List (List D)) : F25.L11 k call k5 (n + 1) v0 v1 v2 v3 v4 v5 v6 v7 = ite' (decide (v4 < v3)) (ite' (inR v4 v7.length) (bindL (cellL 1 v7 v4.toNat 0) fun l14 => bindR (call 56 [AV.d (D.list 1 l14), AV.d (D.fn 57 [[D.list 1 v5]])]) fun r15 => bindB (resB 1 false 1 r15 0 0) fun b16 => ite' (b16) (ite' (fits (List.length v5 + List.length l14)) (F25.L11 k call k5 (n) (v0) (v1) (v2) (v3) (IntKind.i64.wrap (v4 + (1 : Int))) (v5 ++ l14) (v6) (v7)) (none)) (ite' (fits (v6.length + [[D.list 1 l14]].length)) (F25.L11 k call k5 (n) (v0) (v1) (v2) (v3) (IntKind.i64.wrap (v4 + (1 : Int))) (v5) (v6 ++ [[D.list 1 l14]]) (v7)) (none))) (none)) (bindR (call 59 [AV.var 0 0, AV.d (D.int IntKind.i64 (↑3 : Int)), AV.d (D.list 1 v5)]) fun r14 => bindL (resO 3 1 1 false 1 r14 0 0) fun l15 => bindR (call 60 [AV.var 0 0, AV.d (D.int IntKind.i64 (↑3 : Int)), AV.d (D.list 1 l15)]) fun r16 => bindL (resO 3 1 2 false 1 r16 0 0) fun l17 => ite' (fits (v6.length + [[D.list 1 l17]].length)) (F25.L5 k call  (k5) (v0) (v1) (IntKind.i64.wrap (v2 + (1 : Int))) (v6 ++ [[D.list 1 l17]])) (none)) := by kernel_rfl
theorem F25.eq (k : Nat) (call : CallF) (a0_0 : Ovi.Rows) (a0_1 : Ovi.Rows) : evFnK P hs call (25 : FuncId) k Try.f25 [AV.agg [AV.d (D.list 3 a0_0), AV.d (D.list 2 a0_1)]] = bindR (call 37 [AV.agg [AV.d (D.list 3 a0_0), AV.d (D.list 2 a0_1)]]) fun r4 => bindB (resB 1 false 1 r4 0 0) fun b5 => ite' (!b5) (some ([(false, [RL.nil])])) (F25.L5 k call  (k) (a0_1) ((↑(List.length a0_1) : Int)) ((0 : Int)) ([])) := by kernel_rfl
theorem F25.run (k : Nat) (a0_0 : Ovi.Rows) (a0_1 : Ovi.Rows) : C (k + 1) 25 [AV.agg [AV.d (D.list 3 a0_0), AV.d (D.list 2 a0_1)]] = bindR ((C k) 37 [AV.agg [AV.d (D.list 3 a0_0), AV.d (D.list 2 a0_1)]]) fun r4 => bindB (resB 1 false 1 r4 0 0) fun b5 => ite' (!b5) (some ([(false, [RL.nil])])) (F25.L5 k (C k)  (k) (a0_1) ((↑(List.length a0_1) : Int)) ((0 : Int)) ([])) := (show C (k + 1) 25 [AV.agg [AV.d (D.list 3 a0_0), AV.d (D.list 2 a0_1)]] = evFnK P hs (C k) 25 k Try.f25 [AV.agg [AV.d (D.list 3 a0_0), AV.d (D.list 2 a0_1)]] by kernel_rfl).trans (F25.eq k (C k) a0_0 a0_1)
noncomputable def F29.L5 (k : Nat) (call : CallF)  (n : Nat) (v0 : Ovi.Rows) (v1 : Int) (v2 : Int) : Option Res := loopFn P hs call 29 k Try.f29 [1, 1, 1, 0, 1, 0] [] n [(0, AV.d (D.list 3 v0)), (1, AV.d (D.int IntKind.i64 v1)), (5, AV.d (D.int IntKind.i64 v2))] []
theorem F29.L5.zero (k : Nat) (call : CallF)  (v0 : Ovi.Rows) (v1 : Int) (v2 : Int) : F29.L5 k call  0 v0 v1 v2 = none := by kernel_rfl
theorem F29.L5.succ (k : Nat) (call : CallF)  (n : Nat) (v0 : Ovi.Rows) (v1 : Int) (v2 : Int) : F29.L5 k call  (n + 1) v0 v1 v2 = ite' (decide (v2 < (↑(List.length v0) : Int))) (ite' (inR v2 (List.length v0)) (bindS (cellS v0 v2.toNat 0) fun s8 => bindI (cellI IntKind.i64 v0 v2.toNat 1) fun n9 => bindB (cellB v0 v2.toNat 2) fun b10 => bindR (call 64 [AV.agg [AV.d (D.str s8), AV.d (D.int IntKind.i64 n9), AV.d (D.bool b10)], AV.d (D.int IntKind.i64 v1)]) fun r11 => bindI (resI IntKind.i64 1 false 1 r11 0 0) fun n12 => ite' (decide (n12 < (0 : Int))) (some ([(false, [RL.d (D.int IntKind.i64 (-1 : Int))])])) (F29.L5 k call  (n) (v0) (n12) (IntKind.i64.wrap (v2 + (1 : Int))))) (none)) (some ([(false, [RL.d (D.int IntKind.i64 v1)])])) := by kernel_rfl
theorem F29.eq (k : Nat) (call : CallF) (a0 : Ovi.Rows) (a1 : Int) : evFnK P hs call (29 : FuncId) k Try.f29 [AV.d (D.list 3 a0), AV.d (D.int IntKind.i64 a1)] = ite' (decide (IntKind.i64.wrap (a1 - (↑(List.length a0) : Int)) < (0 : Int))) (some ([(false, [RL.d (D.int IntKind.i64 (-1 : Int))])])) (F29.L5 k call  (k) (a0) (IntKind.i64.wrap (a1 - (↑(List.length a0) : Int))) ((0 : Int))) := by kernel_rfl
theorem F29.run (k : Nat) (a0 : Ovi.Rows) (a1 : Int) : C (k + 1) 29 [AV.d (D.list 3 a0), AV.d (D.int IntKind.i64 a1)] = ite' (decide (IntKind.i64.wrap (a1 - (↑(List.length a0) : Int)) < (0 : Int))) (some ([(false, [RL.d (D.int IntKind.i64 (-1 : Int))])])) (F29.L5 k (C k)  (k) (a0) (IntKind.i64.wrap (a1 - (↑(List.length a0) : Int))) ((0 : Int))) := (show C (k + 1) 29 [AV.d (D.list 3 a0), AV.d (D.int IntKind.i64 a1)] = evFnK P hs (C k) 29 k Try.f29 [AV.d (D.list 3 a0), AV.d (D.int IntKind.i64 a1)] by kernel_rfl).trans (F29.eq k (C k) a0 a1)
noncomputable def F30.L5 (k : Nat) (call : CallF)  (n : Nat) (v0 : Ovi.Rows) (v1 : Int) (v2 : Int) : Option Res := loopFn P hs call 30 k Try.f30 [1, 1, 1, 0, 1, 0] [] n [(0, AV.d (D.list 2 v0)), (1, AV.d (D.int IntKind.i64 v1)), (5, AV.d (D.int IntKind.i64 v2))] []
theorem F30.L5.zero (k : Nat) (call : CallF)  (v0 : Ovi.Rows) (v1 : Int) (v2 : Int) : F30.L5 k call  0 v0 v1 v2 = none := by kernel_rfl
theorem F30.L5.succ (k : Nat) (call : CallF)  (n : Nat) (v0 : Ovi.Rows) (v1 : Int) (v2 : Int) : F30.L5 k call  (n + 1) v0 v1 v2 = ite' (decide (v2 < (↑(List.length v0) : Int))) (ite' (inR v2 (List.length v0)) (bindI (cellI IntKind.i64 v0 v2.toNat 0) fun n8 => bindL (cellL 1 v0 v2.toNat 1) fun l9 => bindR (call 65 [AV.agg [AV.d (D.int IntKind.i64 n8), AV.d (D.list 1 l9)], AV.d (D.int IntKind.i64 v1)]) fun r10 => bindI (resI IntKind.i64 1 false 1 r10 0 0) fun n11 => ite' (decide (n11 < (0 : Int))) (some ([(false, [RL.d (D.int IntKind.i64 (-1 : Int))])])) (F30.L5 k call  (n) (v0) (n11) (IntKind.i64.wrap (v2 + (1 : Int))))) (none)) (some ([(false, [RL.d (D.int IntKind.i64 v1)])])) := by kernel_rfl
theorem F30.eq (k : Nat) (call : CallF) (a0 : Ovi.Rows) (a1 : Int) : evFnK P hs call (30 : FuncId) k Try.f30 [AV.d (D.list 2 a0), AV.d (D.int IntKind.i64 a1)] = ite' (decide (IntKind.i64.wrap (a1 - (↑(List.length a0) : Int)) < (0 : Int))) (some ([(false, [RL.d (D.int IntKind.i64 (-1 : Int))])])) (F30.L5 k call  (k) (a0) (IntKind.i64.wrap (a1 - (↑(List.length a0) : Int))) ((0 : Int))) := by kernel_rfl
theorem F30.run (k : Nat) (a0 : Ovi.Rows) (a1 : Int) : C (k + 1) 30 [AV.d (D.list 2 a0), AV.d (D.int IntKind.i64 a1)] = ite' (decide (IntKind.i64.wrap (a1 - (↑(List.length a0) : Int)) < (0 : Int))) (some ([(false, [RL.d (D.int IntKind.i64 (-1 : Int))])])) (F30.L5 k (C k)  (k) (a0) (IntKind.i64.wrap (a1 - (↑(List.length a0) : Int))) ((0 : Int))) := (show C (k + 1) 30 [AV.d (D.list 2 a0), AV.d (D.int IntKind.i64 a1)] = evFnK P hs (C k) 30 k Try.f30 [AV.d (D.list 2 a0), AV.d (D.int IntKind.i64 a1)] by kernel_rfl).trans (F30.eq k (C k) a0 a1)
noncomputable def F31.L2 (k : Nat) (call : CallF)  (n : Nat) (v0 : Int) (v1 : Ovi.Rows) (v2 : Ovi.Rows) : Option Res := loopFn P hs call 31 k Try.f31 [1, 0, 1, 0] [] n [(1, AV.var 64 0), (3, AV.d (D.int IntKind.i64 v0))] [(64, Blk.var [AV.d (D.list 3 v1), AV.d (D.list 2 v2)])]
theorem F31.L2.zero (k : Nat) (call : CallF)  (v0 : Int) (v1 : Ovi.Rows) (v2 : Ovi.Rows) : F31.L2 k call  0 v0 v1 v2 = none := by kernel_rfl
theorem F31.L2.succ (k : Nat) (call : CallF)  (n : Nat) (v0 : Int) (v1 : Ovi.Rows) (v2 : Ovi.Rows) : F31.L2 k call  (n + 1) v0 v1 v2 = ite' (decide (v0 < (↑(List.length v2) : Int))) (ite' (inR v0 (List.length v2)) (bindI (cellI IntKind.i64 v2 v0.toNat 0) fun n8 => bindL (cellL 1 v2 v0.toNat 1) fun l9 => bindR (call 66 [AV.d (D.list 3 v1), AV.agg [AV.d (D.int IntKind.i64 n8), AV.d (D.list 1 l9)]]) fun r10 => bindB (resB 1 false 1 r10 0 0) fun b11 => ite' (!b11) (some ([(false, [RL.d (D.bool false)])])) (ite' (decide (v0 > (0 : Int))) (ite' (inR (IntKind.i64.wrap (v0 - (1 : Int))) (List.length v2)) (bindI (cellI IntKind.i64 v2 (IntKind.i64.wrap (v0 - (1 : Int))).toNat 0) fun n12 => bindL (cellL 1 v2 (IntKind.i64.wrap (v0 - (1 : Int))).toNat 1) fun l13 => bindR (call 67 [AV.agg [AV.d (D.int IntKind.i64 n12), AV.d (D.list 1 l13)], AV.agg [AV.d (D.int IntKind.i64 n8), AV.d (D.list 1 l9)]]) fun r14 => bindI (resI IntKind.i64 1 false 1 r14 0 0) fun n15 => ite' (decide (n15 ≥ (0 : Int))) (some ([(false, [RL.d (D.bool false)])])) (ite' (inR n8 (List.length v1)) (bindB (cellB v1 n8.toNat 2) fun b16 => ite' (b16) (bindR (call 32 [AV.agg [AV.d (D.int IntKind.i64 n8), AV.d (D.list 1 l9)]]) fun r17 => bindL (resL 1 1 false 1 r17 0 0) fun l18 => ite' (decide ((↑(List.length l18) : Int) > (0 : Int))) (some ([(false, [RL.d (D.bool false)])])) (F31.L2 k call  (n) (IntKind.i64.wrap (v0 + (1 : Int))) (v1) (v2))) (F31.L2 k call  (n) (IntKind.i64.wrap (v0 + (1 : Int))) (v1) (v2))) (none))) (none)) (ite' (inR n8 (List.length v1)) (bindB (cellB v1 n8.toNat 2) fun b12 => ite' (b12) (bindR (call 32 [AV.agg [AV.d (D.int IntKind.i64 n8), AV.d (D.list 1 l9)]]) fun r13 => bindL (resL 1 1 false 1 r13 0 0) fun l14 => ite' (decide ((↑(List.length l14) : Int) > (0 : Int))) (some ([(false, [RL.d (D.bool false)])])) (F31.L2 k call  (n) (IntKind.i64.wrap (v0 + (1 : Int))) (v1) (v2))) (F31.L2 k call  (n) (IntKind.i64.wrap (v0 + (1 : Int))) (v1) (v2))) (none)))) (none)) (bindR (call 68 [AV.d (D.list 3 v1)]) fun r8 => bindB (resB 1 false 1 r8 0 0) fun b9 => ite' (b9) (some ([(false, [RL.d (D.bool (decide ((↑(List.length v2) : Int) ≤ (30 : Int))))])])) (some ([(false, [RL.d (D.bool false)])]))) := by kernel_rfl
theorem F31.eq (k : Nat) (call : CallF) (a0_0 : Ovi.Rows) (a0_1 : Ovi.Rows) : evFnK P hs call (31 : FuncId) k Try.f31 [AV.agg [AV.d (D.list 3 a0_0), AV.d (D.list 2 a0_1)]] = F31.L2 k call  (k) ((0 : Int)) (a0_0) (a0_1) := by kernel_rfl
theorem F31.run (k : Nat) (a0_0 : Ovi.Rows) (a0_1 : Ovi.Rows) : C (k + 1) 31 [AV.agg [AV.d (D.list 3 a0_0), AV.d (D.list 2 a0_1)]] = F31.L2 k (C k)  (k) ((0 : Int)) (a0_0) (a0_1) := (show C (k + 1) 31 [AV.agg [AV.d (D.list 3 a0_0), AV.d (D.list 2 a0_1)]] = evFnK P hs (C k) 31 k Try.f31 [AV.agg [AV.d (D.list 3 a0_0), AV.d (D.list 2 a0_1)]] by kernel_rfl).trans (F31.eq k (C k) a0_0 a0_1)
noncomputable def F32.L3 (k : Nat) (call : CallF)  (n : Nat) (v0 : List (List D)) (v1 : Int) (v2 : Int) (v3 : Ovi.Rows) : Option Res := loopFn P hs call 32 k Try.f32 [1, 1, 0, 1, 0] [] n [(1, AV.var 64 0), (3, AV.d (D.list 1 v0)), (4, AV.d (D.int IntKind.i64 v1))] [(64, Blk.var [AV.d (D.int IntKind.i64 v2), AV.d (D.list 1 v3)])]
theorem F32.L3.zero (k : Nat) (call : CallF)  (v0 : List (List D)) (v1 : Int) (v2 : Int) (v3 : Ovi.Rows) : F32.L3 k call  0 v0 v1 v2 v3 = none := by kernel_rfl
theorem F32.L3.succ (k : Nat) (call : CallF)  (n : Nat) (v0 : List (List D)) (v1 : Int) (v2 : Int) (v3 : Ovi.Rows) : F32.L3 k call  (n + 1) v0 v1 v2 v3 = ite' (decide (v1 < (↑(List.length v3) : Int))) (ite' (inR v1 (List.length v3)) (bindI (cellI IntKind.i64 v3 v1.toNat 0) fun n9 => bindR (call 69 [AV.d (D.int IntKind.i64 n9)]) fun r10 => bindI (resI IntKind.i64 2 false 1 r10 0 0) fun n11 => bindB (resB 2 false 1 r10 1 0) fun b12 => ite' (b12) (bindR (call 70 [AV.d (D.list 1 v0), AV.d (D.int IntKind.i64 n11)]) fun r13 => bindL (resL 1 1 false 1 r13 0 0) fun l14 => F32.L3 k call  (n) (l14) (IntKind.i64.wrap (v1 + (1 : Int))) (v2) (v3)) (F32.L3 k call  (n) (v0) (IntKind.i64.wrap (v1 + (1 : Int))) (v2) (v3))) (none)) (some ([(false, [RL.d (D.list 1 v0)])])) := by kernel_rfl
theorem F32.eq (k : Nat) (call : CallF) (a0_0 : Int) (a0_1 : Ovi.Rows) : evFnK P hs call (32 : FuncId) k Try.f32 [AV.agg [AV.d (D.int IntKind.i64 a0_0), AV.d (D.list 1 a0_1)]] = F32.L3 k call  (k) ([]) ((0 : Int)) (a0_0) (a0_1) := by kernel_rfl
theorem F32.run (k : Nat) (a0_0 : Int) (a0_1 : Ovi.Rows) : C (k + 1) 32 [AV.agg [AV.d (D.int IntKind.i64 a0_0), AV.d (D.list 1 a0_1)]] = F32.L3 k (C k)  (k) ([]) ((0 : Int)) (a0_0) (a0_1) := (show C (k + 1) 32 [AV.agg [AV.d (D.int IntKind.i64 a0_0), AV.d (D.list 1 a0_1)]] = evFnK P hs (C k) 32 k Try.f32 [AV.agg [AV.d (D.int IntKind.i64 a0_0), AV.d (D.list 1 a0_1)]] by kernel_rfl).trans (F32.eq k (C k) a0_0 a0_1)
noncomputable def F35.L3 (k : Nat) (call : CallF)  (n : Nat) (v0 : Ovi.Rows) (v1 : Int) (v2 : Ovi.Rows) : Option Res := loopFn P hs call 35 k Try.f35 [1, 1, 0, 1, 0] [] n [(0, AV.d (D.list 3 v0)), (3, AV.own 100003 0), (4, AV.d (D.int IntKind.i64 v1))] [(100003, Blk.arr 87 3 0 v2)]
theorem F35.L3.zero (k : Nat) (call : CallF)  (v0 : Ovi.Rows) (v1 : Int) (v2 : Ovi.Rows) : F35.L3 k call  0 v0 v1 v2 = none := by kernel_rfl
theorem F35.L3.succ (k : Nat) (call : CallF)  (n : Nat) (v0 : Ovi.Rows) (v1 : Int) (v2 : Ovi.Rows) : F35.L3 k call  (n + 1) v0 v1 v2 = ite' (decide (v1 < (↑(List.length v0) : Int))) (ite' (inR v1 (List.length v0)) (bindS (cellS v0 v1.toNat 0) fun s7 => bindI (cellI IntKind.i64 v0 v1.toNat 1) fun n8 => bindB (cellB v0 v1.toNat 2) fun b9 => bindR (call 71 [AV.agg [AV.d (D.str s7), AV.d (D.int IntKind.i64 n8), AV.d (D.bool b9)]]) fun r10 => bindS (resS 1 true 3 r10 0 0) fun s11 => bindI (resI IntKind.i64 1 true 3 r10 0 1) fun n12 => bindB (resB 1 true 3 r10 0 2) fun b13 => ite' (inR v1 (List.length v2)) (F35.L3 k call  (n) (v0) (IntKind.i64.wrap (v1 + (1 : Int))) (rowsSet v2 v1.toNat 0 [D.str s11, D.int IntKind.i64 n12, D.bool b13])) (none)) (none)) (some ([(false, [RL.row 87 3 v2])])) := by kernel_rfl
theorem F35.eq (k : Nat) (call : CallF) (a0 : Ovi.Rows) : evFnK P hs call (35 : FuncId) k Try.f35 [AV.d (D.list 3 a0)] = ite' ((↑(List.length a0) : Int) == (↑(List.length a0) : Int)) (ite' (inM (↑(List.length a0) : Int)) (F35.L3 k call  (k) (a0) ((0 : Int)) (rowsOf (↑(List.length a0) : Int) [D.str ([] : List UInt8), D.int IntKind.i64 (0 : Int), D.bool false])) (none)) (none) := by kernel_rfl
theorem F35.run (k : Nat) (a0 : Ovi.Rows) : C (k + 1) 35 [AV.d (D.list 3 a0)] = ite' ((↑(List.length a0) : Int) == (↑(List.length a0) : Int)) (ite' (inM (↑(List.length a0) : Int)) (F35.L3 k (C k)  (k) (a0) ((0 : Int)) (rowsOf (↑(List.length a0) : Int) [D.str ([] : List UInt8), D.int IntKind.i64 (0 : Int), D.bool false])) (none)) (none) := (show C (k + 1) 35 [AV.d (D.list 3 a0)] = evFnK P hs (C k) 35 k Try.f35 [AV.d (D.list 3 a0)] by kernel_rfl).trans (F35.eq k (C k) a0)
noncomputable def F36.L3 (k : Nat) (call : CallF)  (n : Nat) (v0 : Ovi.Rows) (v1 : Int) (v2 : Ovi.Rows) : Option Res := loopFn P hs call 36 k Try.f36 [1, 1, 0, 1, 0] [] n [(0, AV.d (D.list 2 v0)), (3, AV.own 100003 0), (4, AV.d (D.int IntKind.i64 v1))] [(100003, Blk.arr 59 2 0 v2)]
theorem F36.L3.zero (k : Nat) (call : CallF)  (v0 : Ovi.Rows) (v1 : Int) (v2 : Ovi.Rows) : F36.L3 k call  0 v0 v1 v2 = none := by kernel_rfl
theorem F36.L3.succ (k : Nat) (call : CallF)  (n : Nat) (v0 : Ovi.Rows) (v1 : Int) (v2 : Ovi.Rows) : F36.L3 k call  (n + 1) v0 v1 v2 = ite' (decide (v1 < (↑(List.length v0) : Int))) (ite' (inR v1 (List.length v0)) (bindI (cellI IntKind.i64 v0 v1.toNat 0) fun n7 => bindL (cellL 1 v0 v1.toNat 1) fun l8 => bindR (call 72 [AV.agg [AV.d (D.int IntKind.i64 n7), AV.d (D.list 1 l8)]]) fun r9 => bindI (resI IntKind.i64 1 true 2 r9 0 0) fun n10 => bindL (resO 3 1 1 true 2 r9 0 1) fun l11 => ite' (inR v1 (List.length v2)) (F36.L3 k call  (n) (v0) (IntKind.i64.wrap (v1 + (1 : Int))) (rowsSet v2 v1.toNat 0 [D.int IntKind.i64 n10, D.list 1 l11])) (none)) (none)) (some ([(false, [RL.row 59 2 v2])])) := by kernel_rfl
theorem F36.eq (k : Nat) (call : CallF) (a0 : Ovi.Rows) : evFnK P hs call (36 : FuncId) k Try.f36 [AV.d (D.list 2 a0)] = ite' ((↑(List.length a0) : Int) == (↑(List.length a0) : Int)) (ite' (inM (↑(List.length a0) : Int)) (F36.L3 k call  (k) (a0) ((0 : Int)) (rowsOf (↑(List.length a0) : Int) [D.int IntKind.i64 (0 : Int), D.list 1 []])) (none)) (none) := by kernel_rfl
theorem F36.run (k : Nat) (a0 : Ovi.Rows) : C (k + 1) 36 [AV.d (D.list 2 a0)] = ite' ((↑(List.length a0) : Int) == (↑(List.length a0) : Int)) (ite' (inM (↑(List.length a0) : Int)) (F36.L3 k (C k)  (k) (a0) ((0 : Int)) (rowsOf (↑(List.length a0) : Int) [D.int IntKind.i64 (0 : Int), D.list 1 []])) (none)) (none) := (show C (k + 1) 36 [AV.d (D.list 2 a0)] = evFnK P hs (C k) 36 k Try.f36 [AV.d (D.list 2 a0)] by kernel_rfl).trans (F36.eq k (C k) a0)
noncomputable def F37.L4 (k : Nat) (call : CallF)  (n : Nat) (v0 : Ovi.Rows) (v1 : Int) (v2 : Int) (v3 : Ovi.Rows) (v4 : Ovi.Rows) : Option Res := loopFn P hs call 37 k Try.f37 [1, 1, 0, 1, 0] [] n [(1, AV.var 64 0), (16, AV.d (D.list 2 v0)), (17, AV.d (D.int IntKind.i64 v1)), (18, AV.d (D.int IntKind.i64 v2))] [(64, Blk.var [AV.d (D.list 3 v3), AV.d (D.list 2 v4)])]
theorem F37.L4.zero (k : Nat) (call : CallF)  (v0 : Ovi.Rows) (v1 : Int) (v2 : Int) (v3 : Ovi.Rows) (v4 : Ovi.Rows) : F37.L4 k call  0 v0 v1 v2 v3 v4 = none := by kernel_rfl
theorem F37.L4.succ (k : Nat) (call : CallF)  (n : Nat) (v0 : Ovi.Rows) (v1 : Int) (v2 : Int) (v3 : Ovi.Rows) (v4 : Ovi.Rows) : F37.L4 k call  (n + 1) v0 v1 v2 v3 v4 = ite' (decide (v2 < v1)) (ite' (inR v2 (List.length v0)) (bindI (cellI IntKind.i64 v0 v2.toNat 0) fun n10 => bindL (cellL 1 v0 v2.toNat 1) fun l11 => bindR (call 74 [AV.d (D.list 3 v3), AV.agg [AV.d (D.int IntKind.i64 n10), AV.d (D.list 1 l11)]]) fun r12 => bindB (resB 1 false 1 r12 0 0) fun b13 => ite' (!b13) (some ([(false, [RL.d (D.bool false)])])) (ite' (decide (v2 > (0 : Int))) (ite' (inR (IntKind.i64.wrap (v2 - (1 : Int))) (List.length v4)) (bindI (cellI IntKind.i64 v4 (IntKind.i64.wrap (v2 - (1 : Int))).toNat 0) fun n14 => bindL (cellL 1 v4 (IntKind.i64.wrap (v2 - (1 : Int))).toNat 1) fun l15 => bindR (call 75 [AV.agg [AV.d (D.int IntKind.i64 n14), AV.d (D.list 1 l15)], AV.agg [AV.d (D.int IntKind.i64 n10), AV.d (D.list 1 l11)]]) fun r16 => bindI (resI IntKind.i64 1 false 1 r16 0 0) fun n17 => ite' (decide (n17 ≥ (0 : Int))) (some ([(false, [RL.d (D.bool false)])])) (ite' (inR n10 (List.length v3)) (bindB (cellB v3 n10.toNat 2) fun b18 => ite' (b18) (bindR (call 55 [AV.agg [AV.d (D.int IntKind.i64 n10), AV.d (D.list 1 l11)]]) fun r19 => bindL (resO 3 1 1 false 1 r19 0 0) fun l20 => ite' (decide ((↑(List.length l20) : Int) > (0 : Int))) (some ([(false, [RL.d (D.bool false)])])) (F37.L4 k call  (n) (v0) (v1) (IntKind.i64.wrap (v2 + (1 : Int))) (v3) (v4))) (F37.L4 k call  (n) (v0) (v1) (IntKind.i64.wrap (v2 + (1 : Int))) (v3) (v4))) (none))) (none)) (ite' (inR n10 (List.length v3)) (bindB (cellB v3 n10.toNat 2) fun b14 => ite' (b14) (bindR (call 55 [AV.agg [AV.d (D.int IntKind.i64 n10), AV.d (D.list 1 l11)]]) fun r15 => bindL (resO 3 1 1 false 1 r15 0 0) fun l16 => ite' (decide ((↑(List.length l16) : Int) > (0 : Int))) (some ([(false, [RL.d (D.bool false)])])) (F37.L4 k call  (n) (v0) (v1) (IntKind.i64.wrap (v2 + (1 : Int))) (v3) (v4))) (F37.L4 k call  (n) (v0) (v1) (IntKind.i64.wrap (v2 + (1 : Int))) (v3) (v4))) (none)))) (none)) (some ([(false, [RL.d (D.bool true)])])) := by kernel_rfl
theorem F37.eq (k : Nat) (call : CallF) (a0_0 : Ovi.Rows) (a0_1 : Ovi.Rows) : evFnK P hs call (37 : FuncId) k Try.f37 [AV.agg [AV.d (D.list 3 a0_0), AV.d (D.list 2 a0_1)]] = bindR (call 73 [AV.d (D.list 3 a0_0)]) fun r4 => bindB (resB 1 false 1 r4 0 0) fun b5 => ite' (!b5) (some ([(false, [RL.d (D.bool false)])])) (ite' (decide ((↑(List.length a0_1) : Int) > (30 : Int))) (some ([(false, [RL.d (D.bool false)])])) (F37.L4 k call  (k) (a0_1) ((↑(List.length a0_1) : Int)) ((0 : Int)) (a0_0) (a0_1))) := by kernel_rfl
theorem F37.run (k : Nat) (a0_0 : Ovi.Rows) (a0_1 : Ovi.Rows) : C (k + 1) 37 [AV.agg [AV.d (D.list 3 a0_0), AV.d (D.list 2 a0_1)]] = bindR ((C k) 73 [AV.d (D.list 3 a0_0)]) fun r4 => bindB (resB 1 false 1 r4 0 0) fun b5 => ite' (!b5) (some ([(false, [RL.d (D.bool false)])])) (ite' (decide ((↑(List.length a0_1) : Int) > (30 : Int))) (some ([(false, [RL.d (D.bool false)])])) (F37.L4 k (C k)  (k) (a0_1) ((↑(List.length a0_1) : Int)) ((0 : Int)) (a0_0) (a0_1))) := (show C (k + 1) 37 [AV.agg [AV.d (D.list 3 a0_0), AV.d (D.list 2 a0_1)]] = evFnK P hs (C k) 37 k Try.f37 [AV.agg [AV.d (D.list 3 a0_0), AV.d (D.list 2 a0_1)]] by kernel_rfl).trans (F37.eq k (C k) a0_0 a0_1)
noncomputable def F42.L4 (k : Nat) (call : CallF)  (n : Nat) (v0 : Ovi.Rows) (v1 : Ovi.Rows) (v2 : Int) : Option Res := loopFn P hs call 42 k Try.f42 [1, 1, 0, 1, 0] [] n [(0, AV.d (D.list 3 v0)), (1, AV.d (D.list 3 v1)), (5, AV.d (D.int IntKind.i64 v2))] []
theorem F42.L4.zero (k : Nat) (call : CallF)  (v0 : Ovi.Rows) (v1 : Ovi.Rows) (v2 : Int) : F42.L4 k call  0 v0 v1 v2 = none := by kernel_rfl
theorem F42.L4.succ (k : Nat) (call : CallF)  (n : Nat) (v0 : Ovi.Rows) (v1 : Ovi.Rows) (v2 : Int) : F42.L4 k call  (n + 1) v0 v1 v2 = ite' (decide (v2 < (↑(List.length v0) : Int))) (ite' (inR v2 (List.length v0)) (bindS (cellS v0 v2.toNat 0) fun s8 => bindI (cellI IntKind.i64 v0 v2.toNat 1) fun n9 => bindB (cellB v0 v2.toNat 2) fun b10 => ite' (inR v2 (List.length v1)) (bindS (cellS v1 v2.toNat 0) fun s11 => bindI (cellI IntKind.i64 v1 v2.toNat 1) fun n12 => bindB (cellB v1 v2.toNat 2) fun b13 => bindR (call 80 [AV.agg [AV.d (D.str s8), AV.d (D.int IntKind.i64 n9), AV.d (D.bool b10)], AV.agg [AV.d (D.str s11), AV.d (D.int IntKind.i64 n12), AV.d (D.bool b13)]]) fun r14 => bindB (resB 1 false 1 r14 0 0) fun b15 => ite' (!b15) (some ([(false, [RL.d (D.bool false)])])) (F42.L4 k call  (n) (v0) (v1) (IntKind.i64.wrap (v2 + (1 : Int))))) (none)) (none)) (some ([(false, [RL.d (D.bool true)])])) := by kernel_rfl
theorem F42.eq (k : Nat) (call : CallF) (a0 : Ovi.Rows) (a1 : Ovi.Rows) : evFnK P hs call (42 : FuncId) k Try.f42 [AV.d (D.list 3 a0), AV.d (D.list 3 a1)] = ite' ((↑(List.length a0) : Int) != (↑(List.length a1) : Int)) (some ([(false, [RL.d (D.bool false)])])) (F42.L4 k call  (k) (a0) (a1) ((0 : Int))) := by kernel_rfl
theorem F42.run (k : Nat) (a0 : Ovi.Rows) (a1 : Ovi.Rows) : C (k + 1) 42 [AV.d (D.list 3 a0), AV.d (D.list 3 a1)] = ite' ((↑(List.length a0) : Int) != (↑(List.length a1) : Int)) (some ([(false, [RL.d (D.bool false)])])) (F42.L4 k (C k)  (k) (a0) (a1) ((0 : Int))) := (show C (k + 1) 42 [AV.d (D.list 3 a0), AV.d (D.list 3 a1)] = evFnK P hs (C k) 42 k Try.f42 [AV.d (D.list 3 a0), AV.d (D.list 3 a1)] by kernel_rfl).trans (F42.eq k (C k) a0 a1)
noncomputable def F43.L4 (k : Nat) (call : CallF)  (n : Nat) (v0 : Ovi.Rows) (v1 : Ovi.Rows) (v2 : Int) : Option Res := loopFn P hs call 43 k Try.f43 [1, 1, 0, 1, 0] [] n [(0, AV.d (D.list 2 v0)), (1, AV.d (D.list 2 v1)), (5, AV.d (D.int IntKind.i64 v2))] []
theorem F43.L4.zero (k : Nat) (call : CallF)  (v0 : Ovi.Rows) (v1 : Ovi.Rows) (v2 : Int) : F43.L4 k call  0 v0 v1 v2 = none := by kernel_rfl
theorem F43.L4.succ (k : Nat) (call : CallF)  (n : Nat) (v0 : Ovi.Rows) (v1 : Ovi.Rows) (v2 : Int) : F43.L4 k call  (n + 1) v0 v1 v2 = ite' (decide (v2 < (↑(List.length v0) : Int))) (ite' (inR v2 (List.length v0)) (bindI (cellI IntKind.i64 v0 v2.toNat 0) fun n8 => bindL (cellL 1 v0 v2.toNat 1) fun l9 => ite' (inR v2 (List.length v1)) (bindI (cellI IntKind.i64 v1 v2.toNat 0) fun n10 => bindL (cellL 1 v1 v2.toNat 1) fun l11 => bindR (call 81 [AV.agg [AV.d (D.int IntKind.i64 n8), AV.d (D.list 1 l9)], AV.agg [AV.d (D.int IntKind.i64 n10), AV.d (D.list 1 l11)]]) fun r12 => bindB (resB 1 false 1 r12 0 0) fun b13 => ite' (!b13) (some ([(false, [RL.d (D.bool false)])])) (F43.L4 k call  (n) (v0) (v1) (IntKind.i64.wrap (v2 + (1 : Int))))) (none)) (none)) (some ([(false, [RL.d (D.bool true)])])) := by kernel_rfl
theorem F43.eq (k : Nat) (call : CallF) (a0 : Ovi.Rows) (a1 : Ovi.Rows) : evFnK P hs call (43 : FuncId) k Try.f43 [AV.d (D.list 2 a0), AV.d (D.list 2 a1)] = ite' ((↑(List.length a0) : Int) != (↑(List.length a1) : Int)) (some ([(false, [RL.d (D.bool false)])])) (F43.L4 k call  (k) (a0) (a1) ((0 : Int))) := by kernel_rfl
theorem F43.run (k : Nat) (a0 : Ovi.Rows) (a1 : Ovi.Rows) : C (k + 1) 43 [AV.d (D.list 2 a0), AV.d (D.list 2 a1)] = ite' ((↑(List.length a0) : Int) != (↑(List.length a1) : Int)) (some ([(false, [RL.d (D.bool false)])])) (F43.L4 k (C k)  (k) (a0) (a1) ((0 : Int))) := (show C (k + 1) 43 [AV.d (D.list 2 a0), AV.d (D.list 2 a1)] = evFnK P hs (C k) 43 k Try.f43 [AV.d (D.list 2 a0), AV.d (D.list 2 a1)] by kernel_rfl).trans (F43.eq k (C k) a0 a1)
noncomputable def F54.L3 (k : Nat) (call : CallF)  (n : Nat) (v0 : List (List D)) (v1 : Int) (v2 : Ovi.Rows) (v3 : Ovi.Rows) : Option Res := loopFn P hs call 54 k Try.f54 [1, 1, 0, 1, 0] [] n [(1, AV.var 64 0), (3, AV.d (D.list 1 v0)), (4, AV.d (D.int IntKind.i64 v1))] [(64, Blk.var [AV.d (D.list 3 v2), AV.d (D.list 2 v3)])]
noncomputable def F54.L7 (k : Nat) (call : CallF) (k3 : Nat) (n : Nat) (v0 : List (List D)) (v1 : Int) (v2 : Ovi.Rows) (v3 : Int) (v4 : Ovi.Rows) (v5 : Ovi.Rows) : Option Res := loopFn P hs call 54 k Try.f54 [1, 1, 0, 1, 0, 0, 1, 0, 0, 1, 1, 0] [k3] n [(1, AV.var 64 0), (3, AV.d (D.list 1 v0)), (4, AV.d (D.int IntKind.i64 v1)), (5, AV.d (D.list 1 v2)), (6, AV.d (D.int IntKind.i64 v3))] [(64, Blk.var [AV.d (D.list 3 v4), AV.d (D.list 2 v5)])]
theorem F54.L3.zero (k : Nat) (call : CallF)  (v0 : List (List D)) (v1 : Int) (v2 : Ovi.Rows) (v3 : Ovi.Rows) : F54.L3 k call  0 v0 v1 v2 v3 = none := by kernel_rfl
theorem F54.L3.succ (k : Nat) (call : CallF)  (n : Nat) (v0 : List (List D)) (v1 : Int) (v2 : Ovi.Rows) (v3 : Ovi.Rows) : F54.L3 k call  (n + 1) v0 v1 v2 v3 = ite' (decide (v1 < (↑(List.length v3) : Int))) (ite' (inR v1 (List.length v3)) (bindI (cellI IntKind.i64 v3 v1.toNat 0) fun n9 => bindL (cellL 1 v3 v1.toNat 1) fun l10 => bindR (call 32 [AV.agg [AV.d (D.int IntKind.i64 n9), AV.d (D.list 1 l10)]]) fun r11 => bindL (resL 1 1 false 1 r11 0 0) fun l12 => F54.L7 k call n (k) (v0) (v1) (l12) ((0 : Int)) (v2) (v3)) (none)) (some ([(false, [RL.d (D.list 1 v0)])])) := by kernel_rfl
theorem F54.L7.zero (k : Nat) (call : CallF) (k3 : Nat) (v0 : List (List D)) (v1 : Int) (v2 : Ovi.Rows) (v3 : Int) (v4 : Ovi.Rows) (v5 : Ovi.Rows) : F54.L7 k call k3 0 v0 v1 v2 v3 v4 v5 = none := by kernel_rfl
theorem F54.L7.succ (k : Nat) (call : CallF) (k3 : Nat) (n : Nat) (v0 : List (List D)) (v1 : Int) (v2 : Ovi.Rows) (v3 : Int) (v4 : Ovi.Rows) (v5 : Ovi.Rows) : F54.L7 k call k3 (n + 1) v0 v1 v2 v3 v4 v5 = ite' (decide (v3 < (↑(List.length v2) : Int))) (ite' (inR v3 (List.length v2)) (bindI (cellI IntKind.i64 v2 v3.toNat 0) fun n12 => bindR (call 70 [AV.d (D.list 1 v0), AV.d (D.int IntKind.i64 n12)]) fun r13 => bindL (resL 1 1 false 1 r13 0 0) fun l14 => F54.L7 k call k3 (n) (l14) (v1) (v2) (IntKind.i64.wrap (v3 + (1 : Int))) (v4) (v5)) (none)) (F54.L3 k call  (k3) (v0) (IntKind.i64.wrap (v1 + (1 : Int))) (v4) (v5)) := by kernel_rfl
theorem F54.eq (k : Nat) (call : CallF) (a0_0 : Ovi.Rows) (a0_1 : Ovi.Rows) : evFnK P hs call (54 : FuncId) k Try.f54 [AV.agg [AV.d (D.list 3 a0_0), AV.d (D.list 2 a0_1)]] = F54.L3 k call  (k) ([]) ((0 : Int)) (a0_0) (a0_1) := by kernel_rfl
theorem F54.run (k : Nat) (a0_0 : Ovi.Rows) (a0_1 : Ovi.Rows) : C (k + 1) 54 [AV.agg [AV.d (D.list 3 a0_0), AV.d (D.list 2 a0_1)]] = F54.L3 k (C k)  (k) ([]) ((0 : Int)) (a0_0) (a0_1) := (show C (k + 1) 54 [AV.agg [AV.d (D.list 3 a0_0), AV.d (D.list 2 a0_1)]] = evFnK P hs (C k) 54 k Try.f54 [AV.agg [AV.d (D.list 3 a0_0), AV.d (D.list 2 a0_1)]] by kernel_rfl).trans (F54.eq k (C k) a0_0 a0_1)
theorem F55.eq (k : Nat) (call : CallF) (a0_0 : Int) (a0_1 : Ovi.Rows) : evFnK P hs call (55 : FuncId) k Try.f55 [AV.agg [AV.d (D.int IntKind.i64 a0_0), AV.d (D.list 1 a0_1)]] = bindR (call 85 [AV.d (D.list 1 a0_1)]) fun r4 => bindL (resO 3 1 1 false 1 r4 0 0) fun l5 => some ([(false, [RL.row 3 1 l5])]) := by kernel_rfl
theorem F55.run (k : Nat) (a0_0 : Int) (a0_1 : Ovi.Rows) : C (k + 1) 55 [AV.agg [AV.d (D.int IntKind.i64 a0_0), AV.d (D.list 1 a0_1)]] = bindR ((C k) 85 [AV.d (D.list 1 a0_1)]) fun r4 => bindL (resO 3 1 1 false 1 r4 0 0) fun l5 => some ([(false, [RL.row 3 1 l5])]) := (show C (k + 1) 55 [AV.agg [AV.d (D.int IntKind.i64 a0_0), AV.d (D.list 1 a0_1)]] = evFnK P hs (C k) 55 k Try.f55 [AV.agg [AV.d (D.int IntKind.i64 a0_0), AV.d (D.list 1 a0_1)]] by kernel_rfl).trans (F55.eq k (C k) a0_0 a0_1)
theorem F56.eq (k : Nat) (call : CallF) (a0 : Ovi.Rows) (a1 : FuncId) (a1c : Ovi.Rows) : evFnK P hs call (56 : FuncId) k Try.f56 [AV.d (D.list 1 a0), AV.d (D.fn a1 a1c)] = bindR (call 86 [AV.d (D.list 1 a0), AV.d (D.fn a1 a1c)]) fun r5 => bindI (resI IntKind.i64 1 false 1 r5 0 0) fun n6 => some ([(false, [RL.d (D.bool (decide (n6 ≥ (0 : Int))))])]) := by kernel_rfl
theorem F56.run (k : Nat) (a0 : Ovi.Rows) (a1 : FuncId) (a1c : Ovi.Rows) : C (k + 1) 56 [AV.d (D.list 1 a0), AV.d (D.fn a1 a1c)] = bindR ((C k) 86 [AV.d (D.list 1 a0), AV.d (D.fn a1 a1c)]) fun r5 => bindI (resI IntKind.i64 1 false 1 r5 0 0) fun n6 => some ([(false, [RL.d (D.bool (decide (n6 ≥ (0 : Int))))])]) := (show C (k + 1) 56 [AV.d (D.list 1 a0), AV.d (D.fn a1 a1c)] = evFnK P hs (C k) 56 k Try.f56 [AV.d (D.list 1 a0), AV.d (D.fn a1 a1c)] by kernel_rfl).trans (F56.eq k (C k) a0 a1 a1c)
theorem F57.eq (k : Nat) (call : CallF) (a0 : Int) (c0_0 : Ovi.Rows) : evFnK P hs call (57 : FuncId) k Try.f57 [AV.d (D.int IntKind.i64 a0), AV.cap [D.list 1 c0_0] 0] = bindR (call 58 [AV.d (D.list 1 c0_0), AV.d (D.int IntKind.i64 a0)]) fun r4 => bindB (resB 1 false 1 r4 0 0) fun b5 => some ([(false, [RL.d (D.bool b5)])]) := by kernel_rfl
theorem F57.run (k : Nat) (a0 : Int) (c0_0 : Ovi.Rows) : C (k + 1) 57 [AV.d (D.int IntKind.i64 a0), AV.cap [D.list 1 c0_0] 0] = bindR ((C k) 58 [AV.d (D.list 1 c0_0), AV.d (D.int IntKind.i64 a0)]) fun r4 => bindB (resB 1 false 1 r4 0 0) fun b5 => some ([(false, [RL.d (D.bool b5)])]) := (show C (k + 1) 57 [AV.d (D.int IntKind.i64 a0), AV.cap [D.list 1 c0_0] 0] = evFnK P hs (C k) 57 k Try.f57 [AV.d (D.int IntKind.i64 a0), AV.cap [D.list 1 c0_0] 0] by kernel_rfl).trans (F57.eq k (C k) a0 c0_0)
theorem F58.eq (k : Nat) (call : CallF) (a0 : Ovi.Rows) (a1 : Int) : evFnK P hs call (58 : FuncId) k Try.f58 [AV.d (D.list 1 a0), AV.d (D.int IntKind.i64 a1)] = bindR (call 87 [AV.d (D.list 1 a0), AV.d (D.int IntKind.i64 a1)]) fun r4 => bindI (resI IntKind.i64 1 false 1 r4 0 0) fun n5 => some ([(false, [RL.d (D.bool (decide (n5 ≥ (0 : Int))))])]) := by kernel_rfl
theorem F58.run (k : Nat) (a0 : Ovi.Rows) (a1 : Int) : C (k + 1) 58 [AV.d (D.list 1 a0), AV.d (D.int IntKind.i64 a1)] = bindR ((C k) 87 [AV.d (D.list 1 a0), AV.d (D.int IntKind.i64 a1)]) fun r4 => bindI (resI IntKind.i64 1 false 1 r4 0 0) fun n5 => some ([(false, [RL.d (D.bool (decide (n5 ≥ (0 : Int))))])]) := (show C (k + 1) 58 [AV.d (D.list 1 a0), AV.d (D.int IntKind.i64 a1)] = evFnK P hs (C k) 58 k Try.f58 [AV.d (D.list 1 a0), AV.d (D.int IntKind.i64 a1)] by kernel_rfl).trans (F58.eq k (C k) a0 a1)
noncomputable def F62.L2 (k : Nat) (call : CallF)  (n : Nat) (v0 : Ovi.Rows) (v1 : Ovi.Rows) (v2 : Ovi.Rows) (v3 : Int) (v4 : Int) : Option Res := loopFn P hs call 62 k Try.f62 [1, 0, 1, 0] [] n [(0, AV.d (D.list 1 v0)), (1, AV.d (D.list 1 v1)), (9, AV.d (D.list 1 v2)), (10, AV.d (D.int IntKind.i64 v3)), (11, AV.d (D.int IntKind.i64 v4))] []
theorem F62.L2.zero (k : Nat) (call : CallF)  (v0 : Ovi.Rows) (v1 : Ovi.Rows) (v2 : Ovi.Rows) (v3 : Int) (v4 : Int) : F62.L2 k call  0 v0 v1 v2 v3 v4 = none := by kernel_rfl
theorem F62.L2.succ (k : Nat) (call : CallF)  (n : Nat) (v0 : Ovi.Rows) (v1 : Ovi.Rows) (v2 : Ovi.Rows) (v3 : Int) (v4 : Int) : F62.L2 k call  (n + 1) v0 v1 v2 v3 v4 = ite' (decide (v4 < v3)) (ite' (inR v4 (List.length v2)) (bindI (cellI IntKind.i64 v2 v4.toNat 0) fun n10 => ite' (decide (v4 ≥ (↑(List.length v1) : Int))) (some ([(false, [RL.d (D.int IntKind.i64 (1 : Int))])])) (ite' (inR v4 (List.length v1)) (bindI (cellI IntKind.i64 v1 v4.toNat 0) fun n11 => bindR (call 91 [AV.d (D.int IntKind.i64 n10), AV.d (D.int IntKind.i64 n11)]) fun r12 => bindI (resI IntKind.i64 1 false 1 r12 0 0) fun n13 => ite' (n13 != (0 : Int)) (some ([(false, [RL.d (D.int IntKind.i64 n13)])])) (F62.L2 k call  (n) (v0) (v1) (v2) (v3) (IntKind.i64.wrap (v4 + (1 : Int))))) (none))) (none)) (ite' (decide ((↑(List.length v0) : Int) < (↑(List.length v1) : Int))) (some ([(false, [RL.d (D.int IntKind.i64 (-1 : Int))])])) (some ([(false, [RL.d (D.int IntKind.i64 (0 : Int))])]))) := by kernel_rfl
theorem F62.eq (k : Nat) (call : CallF) (a0 : Ovi.Rows) (a1 : Ovi.Rows) : evFnK P hs call (62 : FuncId) k Try.f62 [AV.d (D.list 1 a0), AV.d (D.list 1 a1)] = F62.L2 k call  (k) (a0) (a1) (a0) ((↑(List.length a0) : Int)) ((0 : Int)) := by kernel_rfl
theorem F62.run (k : Nat) (a0 : Ovi.Rows) (a1 : Ovi.Rows) : C (k + 1) 62 [AV.d (D.list 1 a0), AV.d (D.list 1 a1)] = F62.L2 k (C k)  (k) (a0) (a1) (a0) ((↑(List.length a0) : Int)) ((0 : Int)) := (show C (k + 1) 62 [AV.d (D.list 1 a0), AV.d (D.list 1 a1)] = evFnK P hs (C k) 62 k Try.f62 [AV.d (D.list 1 a0), AV.d (D.list 1 a1)] by kernel_rfl).trans (F62.eq k (C k) a0 a1)
theorem F64.eq (k : Nat) (call : CallF) (a0_0 : List UInt8) (a0_1 : Int) (a0_2 : Bool) (a1 : Int) : evFnK P hs call (64 : FuncId) k Try.f64 [AV.agg [AV.d (D.str a0_0), AV.d (D.int IntKind.i64 a0_1), AV.d (D.bool a0_2)], AV.d (D.int IntKind.i64 a1)] = ite' (decide (IntKind.i64.wrap (a1 - (↑a0_0.length : Int)) < (0 : Int))) (some ([(false, [RL.d (D.int IntKind.i64 (-1 : Int))])])) (some ([(false, [RL.d (D.int IntKind.i64 (IntKind.i64.wrap (a1 - (↑a0_0.length : Int))))])])) := by kernel_rfl
theorem F64.run (k : Nat) (a0_0 : List UInt8) (a0_1 : Int) (a0_2 : Bool) (a1 : Int) : C (k + 1) 64 [AV.agg [AV.d (D.str a0_0), AV.d (D.int IntKind.i64 a0_1), AV.d (D.bool a0_2)], AV.d (D.int IntKind.i64 a1)] = ite' (decide (IntKind.i64.wrap (a1 - (↑a0_0.length : Int)) < (0 : Int))) (some ([(false, [RL.d (D.int IntKind.i64 (-1 : Int))])])) (some ([(false, [RL.d (D.int IntKind.i64 (IntKind.i64.wrap (a1 - (↑a0_0.length : Int))))])])) := (show C (k + 1) 64 [AV.agg [AV.d (D.str a0_0), AV.d (D.int IntKind.i64 a0_1), AV.d (D.bool a0_2)], AV.d (D.int IntKind.i64 a1)] = evFnK P hs (C k) 64 k Try.f64 [AV.agg [AV.d (D.str a0_0), AV.d (D.int IntKind.i64 a0_1), AV.d (D.bool a0_2)], AV.d (D.int IntKind.i64 a1)] by kernel_rfl).trans (F64.eq k (C k) a0_0 a0_1 a0_2 a1)
theorem F65.eq (k : Nat) (call : CallF) (a0_0 : Int) (a0_1 : Ovi.Rows) (a1 : Int) : evFnK P hs call (65 : FuncId) k Try.f65 [AV.agg [AV.d (D.int IntKind.i64 a0_0), AV.d (D.list 1 a0_1)], AV.d (D.int IntKind.i64 a1)] = bindR (call 92 [AV.d (D.list 1 a0_1), AV.d (D.int IntKind.i64 a1)]) fun r5 => bindI (resI IntKind.i64 1 false 1 r5 0 0) fun n6 => ite' (decide (n6 < (0 : Int))) (some ([(false, [RL.d (D.int IntKind.i64 (-1 : Int))])])) (some ([(false, [RL.d (D.int IntKind.i64 n6)])])) := by kernel_rfl
theorem F65.run (k : Nat) (a0_0 : Int) (a0_1 : Ovi.Rows) (a1 : Int) : C (k + 1) 65 [AV.agg [AV.d (D.int IntKind.i64 a0_0), AV.d (D.list 1 a0_1)], AV.d (D.int IntKind.i64 a1)] = bindR ((C k) 92 [AV.d (D.list 1 a0_1), AV.d (D.int IntKind.i64 a1)]) fun r5 => bindI (resI IntKind.i64 1 false 1 r5 0 0) fun n6 => ite' (decide (n6 < (0 : Int))) (some ([(false, [RL.d (D.int IntKind.i64 (-1 : Int))])])) (some ([(false, [RL.d (D.int IntKind.i64 n6)])])) := (show C (k + 1) 65 [AV.agg [AV.d (D.int IntKind.i64 a0_0), AV.d (D.list 1 a0_1)], AV.d (D.int IntKind.i64 a1)] = evFnK P hs (C k) 65 k Try.f65 [AV.agg [AV.d (D.int IntKind.i64 a0_0), AV.d (D.list 1 a0_1)], AV.d (D.int IntKind.i64 a1)] by kernel_rfl).trans (F65.eq k (C k) a0_0 a0_1 a1)
noncomputable def F66.L4 (k : Nat) (call : CallF)  (n : Nat) (v0 : Int) (v1 : Int) (v2 : Ovi.Rows) : Option Res := loopFn P hs call 66 k Try.f66 [1, 1, 0, 1, 0] [] n [(3, AV.var 192 0), (5, AV.d (D.int IntKind.i64 v0))] [(192, Blk.var [AV.d (D.int IntKind.i64 v1), AV.d (D.list 1 v2)])]
theorem F66.L4.zero (k : Nat) (call : CallF)  (v0 : Int) (v1 : Int) (v2 : Ovi.Rows) : F66.L4 k call  0 v0 v1 v2 = none := by kernel_rfl
theorem F66.L4.succ (k : Nat) (call : CallF)  (n : Nat) (v0 : Int) (v1 : Int) (v2 : Ovi.Rows) : F66.L4 k call  (n + 1) v0 v1 v2 = ite' (decide (v0 < (↑(List.length v2) : Int))) (ite' (inR v0 (List.length v2)) (bindI (cellI IntKind.i64 v2 v0.toNat 0) fun n9 => bindR (call 94 [AV.d (D.int IntKind.i64 n9)]) fun r10 => bindB (resB 1 false 1 r10 0 0) fun b11 => ite' (!b11) (some ([(false, [RL.d (D.bool false)])])) (F66.L4 k call  (n) (IntKind.i64.wrap (v0 + (1 : Int))) (v1) (v2))) (none)) (some ([(false, [RL.d (D.bool true)])])) := by kernel_rfl
theorem F66.eq (k : Nat) (call : CallF) (a0 : Ovi.Rows) (a1_0 : Int) (a1_1 : Ovi.Rows) : evFnK P hs call (66 : FuncId) k Try.f66 [AV.d (D.list 3 a0), AV.agg [AV.d (D.int IntKind.i64 a1_0), AV.d (D.list 1 a1_1)]] = bindR (call 68 [AV.d (D.list 3 a0)]) fun r5 => bindB (resB 1 false 1 r5 0 0) fun b6 => ite' (!b6) (some ([(false, [RL.d (D.bool false)])])) (bindR (call 93 [AV.d (D.int IntKind.i64 a1_0), AV.d (D.int IntKind.i64 (0 : Int)), AV.d (D.int IntKind.i64 (IntKind.i64.wrap ((↑(List.length a0) : Int) - (1 : Int))))]) fun r7 => bindB (resB 1 false 1 r7 0 0) fun b8 => ite' (!b8) (some ([(false, [RL.d (D.bool false)])])) (ite' (inR a1_0 (List.length a0)) (bindI (cellI IntKind.i64 a0 a1_0.toNat 1) fun n9 => ite' ((↑(List.length a1_1) : Int) != n9) (some ([(false, [RL.d (D.bool false)])])) (F66.L4 k call  (k) ((0 : Int)) (a1_0) (a1_1))) (none))) := by kernel_rfl
theorem F66.run (k : Nat) (a0 : Ovi.Rows) (a1_0 : Int) (a1_1 : Ovi.Rows) : C (k + 1) 66 [AV.d (D.list 3 a0), AV.agg [AV.d (D.int IntKind.i64 a1_0), AV.d (D.list 1 a1_1)]] = bindR ((C k) 68 [AV.d (D.list 3 a0)]) fun r5 => bindB (resB 1 false 1 r5 0 0) fun b6 => ite' (!b6) (some ([(false, [RL.d (D.bool false)])])) (bindR ((C k) 93 [AV.d (D.int IntKind.i64 a1_0), AV.d (D.int IntKind.i64 (0 : Int)), AV.d (D.int IntKind.i64 (IntKind.i64.wrap ((↑(List.length a0) : Int) - (1 : Int))))]) fun r7 => bindB (resB 1 false 1 r7 0 0) fun b8 => ite' (!b8) (some ([(false, [RL.d (D.bool false)])])) (ite' (inR a1_0 (List.length a0)) (bindI (cellI IntKind.i64 a0 a1_0.toNat 1) fun n9 => ite' ((↑(List.length a1_1) : Int) != n9) (some ([(false, [RL.d (D.bool false)])])) (F66.L4 k (C k)  (k) ((0 : Int)) (a1_0) (a1_1))) (none))) := (show C (k + 1) 66 [AV.d (D.list 3 a0), AV.agg [AV.d (D.int IntKind.i64 a1_0), AV.d (D.list 1 a1_1)]] = evFnK P hs (C k) 66 k Try.f66 [AV.d (D.list 3 a0), AV.agg [AV.d (D.int IntKind.i64 a1_0), AV.d (D.list 1 a1_1)]] by kernel_rfl).trans (F66.eq k (C k) a0 a1_0 a1_1)
theorem F67.eq (k : Nat) (call : CallF) (a0_0 : Int) (a0_1 : Ovi.Rows) (a1_0 : Int) (a1_1 : Ovi.Rows) : evFnK P hs call (67 : FuncId) k Try.f67 [AV.agg [AV.d (D.int IntKind.i64 a0_0), AV.d (D.list 1 a0_1)], AV.agg [AV.d (D.int IntKind.i64 a1_0), AV.d (D.list 1 a1_1)]] = ite' (decide (a0_0 < a1_0)) (some ([(false, [RL.d (D.int IntKind.i64 (-1 : Int))])])) (ite' (decide (a0_0 > a1_0)) (some ([(false, [RL.d (D.int IntKind.i64 (1 : Int))])])) (bindR (call 95 [AV.d (D.list 1 a0_1), AV.d (D.list 1 a1_1)]) fun r6 => bindI (resI IntKind.i64 1 false 1 r6 0 0) fun n7 => some ([(false, [RL.d (D.int IntKind.i64 n7)])]))) := by kernel_rfl
theorem F67.run (k : Nat) (a0_0 : Int) (a0_1 : Ovi.Rows) (a1_0 : Int) (a1_1 : Ovi.Rows) : C (k + 1) 67 [AV.agg [AV.d (D.int IntKind.i64 a0_0), AV.d (D.list 1 a0_1)], AV.agg [AV.d (D.int IntKind.i64 a1_0), AV.d (D.list 1 a1_1)]] = ite' (decide (a0_0 < a1_0)) (some ([(false, [RL.d (D.int IntKind.i64 (-1 : Int))])])) (ite' (decide (a0_0 > a1_0)) (some ([(false, [RL.d (D.int IntKind.i64 (1 : Int))])])) (bindR ((C k) 95 [AV.d (D.list 1 a0_1), AV.d (D.list 1 a1_1)]) fun r6 => bindI (resI IntKind.i64 1 false 1 r6 0 0) fun n7 => some ([(false, [RL.d (D.int IntKind.i64 n7)])]))) := (show C (k + 1) 67 [AV.agg [AV.d (D.int IntKind.i64 a0_0), AV.d (D.list 1 a0_1)], AV.agg [AV.d (D.int IntKind.i64 a1_0), AV.d (D.list 1 a1_1)]] = evFnK P hs (C k) 67 k Try.f67 [AV.agg [AV.d (D.int IntKind.i64 a0_0), AV.d (D.list 1 a0_1)], AV.agg [AV.d (D.int IntKind.i64 a1_0), AV.d (D.list 1 a1_1)]] by kernel_rfl).trans (F67.eq k (C k) a0_0 a0_1 a1_0 a1_1)
noncomputable def F68.L2 (k : Nat) (call : CallF)  (n : Nat) (v0 : Ovi.Rows) (v1 : Int) : Option Res := loopFn P hs call 68 k Try.f68 [1, 0, 1, 0] [] n [(0, AV.d (D.list 3 v0)), (3, AV.d (D.int IntKind.i64 v1))] []
theorem F68.L2.zero (k : Nat) (call : CallF)  (v0 : Ovi.Rows) (v1 : Int) : F68.L2 k call  0 v0 v1 = none := by kernel_rfl
theorem F68.L2.succ (k : Nat) (call : CallF)  (n : Nat) (v0 : Ovi.Rows) (v1 : Int) : F68.L2 k call  (n + 1) v0 v1 = ite' (decide (v1 < (↑(List.length v0) : Int))) (ite' (inR v1 (List.length v0)) (bindS (cellS v0 v1.toNat 0) fun s6 => bindI (cellI IntKind.i64 v0 v1.toNat 1) fun n7 => bindB (cellB v0 v1.toNat 2) fun b8 => bindR (call 96 [AV.agg [AV.d (D.str s6), AV.d (D.int IntKind.i64 n7), AV.d (D.bool b8)]]) fun r9 => bindB (resB 1 false 1 r9 0 0) fun b10 => ite' (!b10) (some ([(false, [RL.d (D.bool false)])])) (ite' (decide (v1 > (0 : Int))) (ite' (inR (IntKind.i64.wrap (v1 - (1 : Int))) (List.length v0)) (bindS (cellS v0 (IntKind.i64.wrap (v1 - (1 : Int))).toNat 0) fun s11 => ite' (inR v1 (List.length v0)) (bindS (cellS v0 v1.toNat 0) fun s12 => ite' (!sLess s11 s12) (some ([(false, [RL.d (D.bool false)])])) (F68.L2 k call  (n) (v0) (IntKind.i64.wrap (v1 + (1 : Int))))) (none)) (none)) (F68.L2 k call  (n) (v0) (IntKind.i64.wrap (v1 + (1 : Int)))))) (none)) (some ([(false, [RL.d (D.bool (decide ((↑(List.length v0) : Int) ≤ (6 : Int))))])])) := by kernel_rfl
theorem F68.eq (k : Nat) (call : CallF) (a0 : Ovi.Rows) : evFnK P hs call (68 : FuncId) k Try.f68 [AV.d (D.list 3 a0)] = F68.L2 k call  (k) (a0) ((0 : Int)) := by kernel_rfl
theorem F68.run (k : Nat) (a0 : Ovi.Rows) : C (k + 1) 68 [AV.d (D.list 3 a0)] = F68.L2 k (C k)  (k) (a0) ((0 : Int)) := (show C (k + 1) 68 [AV.d (D.list 3 a0)] = evFnK P hs (C k) 68 k Try.f68 [AV.d (D.list 3 a0)] by kernel_rfl).trans (F68.eq k (C k) a0)
theorem F69.eq (k : Nat) (call : CallF) (a0 : Int) : evFnK P hs call (69 : FuncId) k Try.f69 [AV.d (D.int IntKind.i64 a0)] = ite' (decide (a0 ≥ (0 : Int))) (some ([(false, [RL.d (D.int IntKind.i64 (0 : Int))]), (false, [RL.d (D.bool false)])])) (bindR (call 93 [AV.d (D.int IntKind.i64 (IntKind.i64.wrap ((-1 : Int) - a0))), AV.d (D.int IntKind.i64 (0 : Int)), AV.d (D.int IntKind.i64 (39 : Int))]) fun r3 => bindB (resB 1 false 1 r3 0 0) fun b4 => ite' (!b4) (some ([(false, [RL.d (D.int IntKind.i64 (0 : Int))]), (false, [RL.d (D.bool false)])])) (some ([(false, [RL.d (D.int IntKind.i64 (IntKind.i64.wrap ((-1 : Int) - a0)))]), (false, [RL.d (D.bool true)])]))) := by kernel_rfl
theorem F69.run (k : Nat) (a0 : Int) : C (k + 1) 69 [AV.d (D.int IntKind.i64 a0)] = ite' (decide (a0 ≥ (0 : Int))) (some ([(false, [RL.d (D.int IntKind.i64 (0 : Int))]), (false, [RL.d (D.bool false)])])) (bindR ((C k) 93 [AV.d (D.int IntKind.i64 (IntKind.i64.wrap ((-1 : Int) - a0))), AV.d (D.int IntKind.i64 (0 : Int)), AV.d (D.int IntKind.i64 (39 : Int))]) fun r3 => bindB (resB 1 false 1 r3 0 0) fun b4 => ite' (!b4) (some ([(false, [RL.d (D.int IntKind.i64 (0 : Int))]), (false, [RL.d (D.bool false)])])) (some ([(false, [RL.d (D.int IntKind.i64 (IntKind.i64.wrap ((-1 : Int) - a0)))]), (false, [RL.d (D.bool true)])]))) := (show C (k + 1) 69 [AV.d (D.int IntKind.i64 a0)] = evFnK P hs (C k) 69 k Try.f69 [AV.d (D.int IntKind.i64 a0)] by kernel_rfl).trans (F69.eq k (C k) a0)
noncomputable def F70.L2 (k : Nat) (call : CallF)  (n : Nat) (v0 : Ovi.Rows) (v1 : Int) (v2 : Int) : Option Res := loopFn P hs call 70 k Try.f70 [1, 1, 0, 0] [] n [(0, AV.d (D.list 1 v0)), (1, AV.d (D.int IntKind.i64 v1)), (5, AV.d (D.int IntKind.i64 v2))] []
theorem F70.L2.zero (k : Nat) (call : CallF)  (v0 : Ovi.Rows) (v1 : Int) (v2 : Int) : F70.L2 k call  0 v0 v1 v2 = none := by kernel_rfl
theorem F70.L2.succ (k : Nat) (call : CallF)  (n : Nat) (v0 : Ovi.Rows) (v1 : Int) (v2 : Int) : F70.L2 k call  (n + 1) v0 v1 v2 = ite' (decide (v2 < (↑(List.length v0) : Int))) (ite' (inR v2 (List.length v0)) (bindI (cellI IntKind.i64 v0 v2.toNat 0) fun n8 => ite' (decide (n8 < v1)) (F70.L2 k call  (n) (v0) (v1) (IntKind.i64.wrap (v2 + (1 : Int)))) (ite' (decide (v2 < (↑(List.length v0) : Int))) (ite' (inR v2 (List.length v0)) (bindI (cellI IntKind.i64 v0 v2.toNat 0) fun n9 => ite' (n9 == v1) (some ([(false, [RL.d (D.list 1 v0)])])) (ite' (inS v2 (↑(List.length v0) : Int) (List.length v0)) (ite' (fits ([[D.int IntKind.i64 v1]].length + (List.drop v2.toNat v0).length)) (ite' (inS (0 : Int) v2 (List.length v0)) (ite' (fits (List.take v2.toNat v0).length) (ite' (fits ((List.take v2.toNat v0).length + List.length ([[D.int IntKind.i64 v1]] ++ List.drop v2.toNat v0))) (some ([(false, [RL.row 3 1 (List.take v2.toNat v0 ++ ([[D.int IntKind.i64 v1]] ++ List.drop v2.toNat v0))])])) (none)) (none)) (none)) (none)) (none))) (none)) (ite' (inS v2 (↑(List.length v0) : Int) (List.length v0)) (ite' (fits ([[D.int IntKind.i64 v1]].length + (List.drop v2.toNat v0).length)) (ite' (inS (0 : Int) v2 (List.length v0)) (ite' (fits (List.take v2.toNat v0).length) (ite' (fits ((List.take v2.toNat v0).length + List.length ([[D.int IntKind.i64 v1]] ++ List.drop v2.toNat v0))) (some ([(false, [RL.row 3 1 (List.take v2.toNat v0 ++ ([[D.int IntKind.i64 v1]] ++ List.drop v2.toNat v0))])])) (none)) (none)) (none)) (none)) (none)))) (none)) (ite' (decide (v2 < (↑(List.length v0) : Int))) (ite' (inR v2 (List.length v0)) (bindI (cellI IntKind.i64 v0 v2.toNat 0) fun n8 => ite' (n8 == v1) (some ([(false, [RL.d (D.list 1 v0)])])) (ite' (inS v2 (↑(List.length v0) : Int) (List.length v0)) (ite' (fits ([[D.int IntKind.i64 v1]].length + (List.drop v2.toNat v0).length)) (ite' (inS (0 : Int) v2 (List.length v0)) (ite' (fits (List.take v2.toNat v0).length) (ite' (fits ((List.take v2.toNat v0).length + List.length ([[D.int IntKind.i64 v1]] ++ List.drop v2.toNat v0))) (some ([(false, [RL.row 3 1 (List.take v2.toNat v0 ++ ([[D.int IntKind.i64 v1]] ++ List.drop v2.toNat v0))])])) (none)) (none)) (none)) (none)) (none))) (none)) (ite' (inS v2 (↑(List.length v0) : Int) (List.length v0)) (ite' (fits ([[D.int IntKind.i64 v1]].length + (List.drop v2.toNat v0).length)) (ite' (inS (0 : Int) v2 (List.length v0)) (ite' (fits (List.take v2.toNat v0).length) (ite' (fits ((List.take v2.toNat v0).length + List.length ([[D.int IntKind.i64 v1]] ++ List.drop v2.toNat v0))) (some ([(false, [RL.row 3 1 (List.take v2.toNat v0 ++ ([[D.int IntKind.i64 v1]] ++ List.drop v2.toNat v0))])])) (none)) (none)) (none)) (none)) (none))) := by kernel_rfl
theorem F70.eq (k : Nat) (call : CallF) (a0 : Ovi.Rows) (a1 : Int) : evFnK P hs call (70 : FuncId) k Try.f70 [AV.d (D.list 1 a0), AV.d (D.int IntKind.i64 a1)] = F70.L2 k call  (k) (a0) (a1) ((0 : Int)) := by kernel_rfl
theorem F70.run (k : Nat) (a0 : Ovi.Rows) (a1 : Int) : C (k + 1) 70 [AV.d (D.list 1 a0), AV.d (D.int IntKind.i64 a1)] = F70.L2 k (C k)  (k) (a0) (a1) ((0 : Int)) := (show C (k + 1) 70 [AV.d (D.list 1 a0), AV.d (D.int IntKind.i64 a1)] = evFnK P hs (C k) 70 k Try.f70 [AV.d (D.list 1 a0), AV.d (D.int IntKind.i64 a1)] by kernel_rfl).trans (F70.eq k (C k) a0 a1)
theorem F71.eq (k : Nat) (call : CallF) (a0_0 : List UInt8) (a0_1 : Int) (a0_2 : Bool) : evFnK P hs call (71 : FuncId) k Try.f71 [AV.agg [AV.d (D.str a0_0), AV.d (D.int IntKind.i64 a0_1), AV.d (D.bool a0_2)]] = some ([(true, [RL.d (D.str a0_0), RL.d (D.int IntKind.i64 a0_1), RL.d (D.bool a0_2)])]) := by kernel_rfl
theorem F71.run (k : Nat) (a0_0 : List UInt8) (a0_1 : Int) (a0_2 : Bool) : C (k + 1) 71 [AV.agg [AV.d (D.str a0_0), AV.d (D.int IntKind.i64 a0_1), AV.d (D.bool a0_2)]] = some ([(true, [RL.d (D.str a0_0), RL.d (D.int IntKind.i64 a0_1), RL.d (D.bool a0_2)])]) := (show C (k + 1) 71 [AV.agg [AV.d (D.str a0_0), AV.d (D.int IntKind.i64 a0_1), AV.d (D.bool a0_2)]] = evFnK P hs (C k) 71 k Try.f71 [AV.agg [AV.d (D.str a0_0), AV.d (D.int IntKind.i64 a0_1), AV.d (D.bool a0_2)]] by kernel_rfl).trans (F71.eq k (C k) a0_0 a0_1 a0_2)
theorem F72.eq (k : Nat) (call : CallF) (a0_0 : Int) (a0_1 : Ovi.Rows) : evFnK P hs call (72 : FuncId) k Try.f72 [AV.agg [AV.d (D.int IntKind.i64 a0_0), AV.d (D.list 1 a0_1)]] = bindR (call 10 [AV.d (D.list 1 a0_1)]) fun r4 => bindL (resO 3 1 1 false 1 r4 0 0) fun l5 => some ([(true, [RL.d (D.int IntKind.i64 a0_0), RL.row 3 1 l5])]) := by kernel_rfl
theorem F72.run (k : Nat) (a0_0 : Int) (a0_1 : Ovi.Rows) : C (k + 1) 72 [AV.agg [AV.d (D.int IntKind.i64 a0_0), AV.d (D.list 1 a0_1)]] = bindR ((C k) 10 [AV.d (D.list 1 a0_1)]) fun r4 => bindL (resO 3 1 1 false 1 r4 0 0) fun l5 => some ([(true, [RL.d (D.int IntKind.i64 a0_0), RL.row 3 1 l5])]) := (show C (k + 1) 72 [AV.agg [AV.d (D.int IntKind.i64 a0_0), AV.d (D.list 1 a0_1)]] = evFnK P hs (C k) 72 k Try.f72 [AV.agg [AV.d (D.int IntKind.i64 a0_0), AV.d (D.list 1 a0_1)]] by kernel_rfl).trans (F72.eq k (C k) a0_0 a0_1)
noncomputable def F73.L2 (k : Nat) (call : CallF)  (n : Nat) (v0 : Ovi.Rows) (v1 : Ovi.Rows) (v2 : Int) (v3 : Int) : Option Res := loopFn P hs call 73 k Try.f73 [1, 0, 1, 0] [] n [(0, AV.d (D.list 3 v0)), (5, AV.d (D.list 3 v1)), (6, AV.d (D.int IntKind.i64 v2)), (7, AV.d (D.int IntKind.i64 v3))] []
theorem F73.L2.zero (k : Nat) (call : CallF)  (v0 : Ovi.Rows) (v1 : Ovi.Rows) (v2 : Int) (v3 : Int) : F73.L2 k call  0 v0 v1 v2 v3 = none := by kernel_rfl
theorem F73.L2.succ (k : Nat) (call : CallF)  (n : Nat) (v0 : Ovi.Rows) (v1 : Ovi.Rows) (v2 : Int) (v3 : Int) : F73.L2 k call  (n + 1) v0 v1 v2 v3 = ite' (decide (v3 < v2)) (ite' (inR v3 (List.length v1)) (bindS (cellS v1 v3.toNat 0) fun s8 => bindI (cellI IntKind.i64 v1 v3.toNat 1) fun n9 => bindB (cellB v1 v3.toNat 2) fun b10 => bindR (call 97 [AV.agg [AV.d (D.str s8), AV.d (D.int IntKind.i64 n9), AV.d (D.bool b10)]]) fun r11 => bindB (resB 1 false 1 r11 0 0) fun b12 => ite' (!b12) (some ([(false, [RL.d (D.bool false)])])) (ite' (decide (v3 > (0 : Int))) (ite' (inR (IntKind.i64.wrap (v3 - (1 : Int))) (List.length v0)) (bindS (cellS v0 (IntKind.i64.wrap (v3 - (1 : Int))).toNat 0) fun s13 => ite' (sLess s8 s13 || s8 == s13) (some ([(false, [RL.d (D.bool false)])])) (F73.L2 k call  (n) (v0) (v1) (v2) (IntKind.i64.wrap (v3 + (1 : Int))))) (none)) (F73.L2 k call  (n) (v0) (v1) (v2) (IntKind.i64.wrap (v3 + (1 : Int)))))) (none)) (some ([(false, [RL.d (D.bool (decide ((↑(List.length v0) : Int) ≤ (6 : Int))))])])) := by kernel_rfl
theorem F73.eq (k : Nat) (call : CallF) (a0 : Ovi.Rows) : evFnK P hs call (73 : FuncId) k Try.f73 [AV.d (D.list 3 a0)] = F73.L2 k call  (k) (a0) (a0) ((↑(List.length a0) : Int)) ((0 : Int)) := by kernel_rfl
theorem F73.run (k : Nat) (a0 : Ovi.Rows) : C (k + 1) 73 [AV.d (D.list 3 a0)] = F73.L2 k (C k)  (k) (a0) (a0) ((↑(List.length a0) : Int)) ((0 : Int)) := (show C (k + 1) 73 [AV.d (D.list 3 a0)] = evFnK P hs (C k) 73 k Try.f73 [AV.d (D.list 3 a0)] by kernel_rfl).trans (F73.eq k (C k) a0)
theorem F74.eq (k : Nat) (call : CallF) (a0 : Ovi.Rows) (a1_0 : Int) (a1_1 : Ovi.Rows) : evFnK P hs call (74 : FuncId) k Try.f74 [AV.d (D.list 3 a0), AV.agg [AV.d (D.int IntKind.i64 a1_0), AV.d (D.list 1 a1_1)]] = bindR (call 73 [AV.d (D.list 3 a0)]) fun r5 => bindB (resB 1 false 1 r5 0 0) fun b6 => ite' (!b6) (some ([(false, [RL.d (D.bool false)])])) (bindR (call 98 [AV.d (D.int IntKind.i64 a1_0), AV.d (D.int IntKind.i64 (0 : Int)), AV.d (D.int IntKind.i64 (IntKind.i64.wrap ((↑(List.length a0) : Int) - (1 : Int))))]) fun r7 => bindB (resB 1 false 1 r7 0 0) fun b8 => ite' (!b8) (some ([(false, [RL.d (D.bool false)])])) (ite' (inR a1_0 (List.length a0)) (bindI (cellI IntKind.i64 a0 a1_0.toNat 1) fun n9 => ite' ((↑(List.length a1_1) : Int) != n9) (some ([(false, [RL.d (D.bool false)])])) (bindR (call 56 [AV.d (D.list 1 a1_1), AV.d (D.fn 99 [])]) fun r10 => bindB (resB 1 false 1 r10 0 0) fun b11 => some ([(false, [RL.d (D.bool !b11)])]))) (none))) := by kernel_rfl
theorem F74.run (k : Nat) (a0 : Ovi.Rows) (a1_0 : Int) (a1_1 : Ovi.Rows) : C (k + 1) 74 [AV.d (D.list 3 a0), AV.agg [AV.d (D.int IntKind.i64 a1_0), AV.d (D.list 1 a1_1)]] = bindR ((C k) 73 [AV.d (D.list 3 a0)]) fun r5 => bindB (resB 1 false 1 r5 0 0) fun b6 => ite' (!b6) (some ([(false, [RL.d (D.bool false)])])) (bindR ((C k) 98 [AV.d (D.int IntKind.i64 a1_0), AV.d (D.int IntKind.i64 (0 : Int)), AV.d (D.int IntKind.i64 (IntKind.i64.wrap ((↑(List.length a0) : Int) - (1 : Int))))]) fun r7 => bindB (resB 1 false 1 r7 0 0) fun b8 => ite' (!b8) (some ([(false, [RL.d (D.bool false)])])) (ite' (inR a1_0 (List.length a0)) (bindI (cellI IntKind.i64 a0 a1_0.toNat 1) fun n9 => ite' ((↑(List.length a1_1) : Int) != n9) (some ([(false, [RL.d (D.bool false)])])) (bindR ((C k) 56 [AV.d (D.list 1 a1_1), AV.d (D.fn 99 [])]) fun r10 => bindB (resB 1 false 1 r10 0 0) fun b11 => some ([(false, [RL.d (D.bool !b11)])]))) (none))) := (show C (k + 1) 74 [AV.d (D.list 3 a0), AV.agg [AV.d (D.int IntKind.i64 a1_0), AV.d (D.list 1 a1_1)]] = evFnK P hs (C k) 74 k Try.f74 [AV.d (D.list 3 a0), AV.agg [AV.d (D.int IntKind.i64 a1_0), AV.d (D.list 1 a1_1)]] by kernel_rfl).trans (F74.eq k (C k) a0 a1_0 a1_1)
theorem F75.eq (k : Nat) (call : CallF) (a0_0 : Int) (a0_1 : Ovi.Rows) (a1_0 : Int) (a1_1 : Ovi.Rows) : evFnK P hs call (75 : FuncId) k Try.f75 [AV.agg [AV.d (D.int IntKind.i64 a0_0), AV.d (D.list 1 a0_1)], AV.agg [AV.d (D.int IntKind.i64 a1_0), AV.d (D.list 1 a1_1)]] = bindR (call 91 [AV.d (D.int IntKind.i64 a0_0), AV.d (D.int IntKind.i64 a1_0)]) fun r6 => bindI (resI IntKind.i64 1 false 1 r6 0 0) fun n7 => bindR (call 62 [AV.d (D.list 1 a0_1), AV.d (D.list 1 a1_1)]) fun r8 => bindI (resI IntKind.i64 1 false 1 r8 0 0) fun n9 => bindR (call 101 [AV.d (D.list 1 [[D.int IntKind.i64 n7], [D.int IntKind.i64 n9]])]) fun r10 => bindI (resI IntKind.i64 1 false 1 r10 0 0) fun n11 => some ([(false, [RL.d (D.int IntKind.i64 n11)])]) := by kernel_rfl
theorem F75.run (k : Nat) (a0_0 : Int) (a0_1 : Ovi.Rows) (a1_0 : Int) (a1_1 : Ovi.Rows) : C (k + 1) 75 [AV.agg [AV.d (D.int IntKind.i64 a0_0), AV.d (D.list 1 a0_1)], AV.agg [AV.d (D.int IntKind.i64 a1_0), AV.d (D.list 1 a1_1)]] = bindR ((C k) 91 [AV.d (D.int IntKind.i64 a0_0), AV.d (D.int IntKind.i64 a1_0)]) fun r6 => bindI (resI IntKind.i64 1 false 1 r6 0 0) fun n7 => bindR ((C k) 62 [AV.d (D.list 1 a0_1), AV.d (D.list 1 a1_1)]) fun r8 => bindI (resI IntKind.i64 1 false 1 r8 0 0) fun n9 => bindR ((C k) 101 [AV.d (D.list 1 [[D.int IntKind.i64 n7], [D.int IntKind.i64 n9]])]) fun r10 => bindI (resI IntKind.i64 1 false 1 r10 0 0) fun n11 => some ([(false, [RL.d (D.int IntKind.i64 n11)])]) := (show C (k + 1) 75 [AV.agg [AV.d (D.int IntKind.i64 a0_0), AV.d (D.list 1 a0_1)], AV.agg [AV.d (D.int IntKind.i64 a1_0), AV.d (D.list 1 a1_1)]] = evFnK P hs (C k) 75 k Try.f75 [AV.agg [AV.d (D.int IntKind.i64 a0_0), AV.d (D.list 1 a0_1)], AV.agg [AV.d (D.int IntKind.i64 a1_0), AV.d (D.list 1 a1_1)]] by kernel_rfl).trans (F75.eq k (C k) a0_0 a0_1 a1_0 a1_1)
theorem F80.eq (k : Nat) (call : CallF) (a0_0 : List UInt8) (a0_1 : Int) (a0_2 : Bool) (a1_0 : List UInt8) (a1_1 : Int) (a1_2 : Bool) : evFnK P hs call (80 : FuncId) k Try.f80 [AV.agg [AV.d (D.str a0_0), AV.d (D.int IntKind.i64 a0_1), AV.d (D.bool a0_2)], AV.agg [AV.d (D.str a1_0), AV.d (D.int IntKind.i64 a1_1), AV.d (D.bool a1_2)]] = ite' (!a0_0 == a1_0) (some ([(false, [RL.d (D.bool false)])])) (ite' (a0_1 != a1_1) (some ([(false, [RL.d (D.bool false)])])) (ite' (!a0_2 == a1_2) (some ([(false, [RL.d (D.bool false)])])) (some ([(false, [RL.d (D.bool true)])])))) := by kernel_rfl
theorem F80.run (k : Nat) (a0_0 : List UInt8) (a0_1 : Int) (a0_2 : Bool) (a1_0 : List UInt8) (a1_1 : Int) (a1_2 : Bool) : C (k + 1) 80 [AV.agg [AV.d (D.str a0_0), AV.d (D.int IntKind.i64 a0_1), AV.d (D.bool a0_2)], AV.agg [AV.d (D.str a1_0), AV.d (D.int IntKind.i64 a1_1), AV.d (D.bool a1_2)]] = ite' (!a0_0 == a1_0) (some ([(false, [RL.d (D.bool false)])])) (ite' (a0_1 != a1_1) (some ([(false, [RL.d (D.bool false)])])) (ite' (!a0_2 == a1_2) (some ([(false, [RL.d (D.bool false)])])) (some ([(false, [RL.d (D.bool true)])])))) := (show C (k + 1) 80 [AV.agg [AV.d (D.str a0_0), AV.d (D.int IntKind.i64 a0_1), AV.d (D.bool a0_2)], AV.agg [AV.d (D.str a1_0), AV.d (D.int IntKind.i64 a1_1), AV.d (D.bool a1_2)]] = evFnK P hs (C k) 80 k Try.f80 [AV.agg [AV.d (D.str a0_0), AV.d (D.int IntKind.i64 a0_1), AV.d (D.bool a0_2)], AV.agg [AV.d (D.str a1_0), AV.d (D.int IntKind.i64 a1_1), AV.d (D.bool a1_2)]] by kernel_rfl).trans (F80.eq k (C k) a0_0 a0_1 a0_2 a1_0 a1_1 a1_2)
theorem F81.eq (k : Nat) (call : CallF) (a0_0 : Int) (a0_1 : Ovi.Rows) (a1_0 : Int) (a1_1 : Ovi.Rows) : evFnK P hs call (81 : FuncId) k Try.f81 [AV.agg [AV.d (D.int IntKind.i64 a0_0), AV.d (D.list 1 a0_1)], AV.agg [AV.d (D.int IntKind.i64 a1_0), AV.d (D.list 1 a1_1)]] = ite' (a0_0 != a1_0) (some ([(false, [RL.d (D.bool false)])])) (bindR (call 13 [AV.d (D.list 1 a0_1), AV.d (D.list 1 a1_1)]) fun r6 => bindB (resB 1 false 1 r6 0 0) fun b7 => ite' (!b7) (some ([(false, [RL.d (D.bool false)])])) (some ([(false, [RL.d (D.bool true)])]))) := by kernel_rfl
theorem F81.run (k : Nat) (a0_0 : Int) (a0_1 : Ovi.Rows) (a1_0 : Int) (a1_1 : Ovi.Rows) : C (k + 1) 81 [AV.agg [AV.d (D.int IntKind.i64 a0_0), AV.d (D.list 1 a0_1)], AV.agg [AV.d (D.int IntKind.i64 a1_0), AV.d (D.list 1 a1_1)]] = ite' (a0_0 != a1_0) (some ([(false, [RL.d (D.bool false)])])) (bindR ((C k) 13 [AV.d (D.list 1 a0_1), AV.d (D.list 1 a1_1)]) fun r6 => bindB (resB 1 false 1 r6 0 0) fun b7 => ite' (!b7) (some ([(false, [RL.d (D.bool false)])])) (some ([(false, [RL.d (D.bool true)])]))) := (show C (k + 1) 81 [AV.agg [AV.d (D.int IntKind.i64 a0_0), AV.d (D.list 1 a0_1)], AV.agg [AV.d (D.int IntKind.i64 a1_0), AV.d (D.list 1 a1_1)]] = evFnK P hs (C k) 81 k Try.f81 [AV.agg [AV.d (D.int IntKind.i64 a0_0), AV.d (D.list 1 a0_1)], AV.agg [AV.d (D.int IntKind.i64 a1_0), AV.d (D.list 1 a1_1)]] by kernel_rfl).trans (F81.eq k (C k) a0_0 a0_1 a1_0 a1_1)
noncomputable def F85.L3 (k : Nat) (call : CallF)  (n : Nat) (v0 : Ovi.Rows) (v1 : Int) (v2 : Int) (v3 : List (List D)) : Option Res := loopFn P hs call 85 k Try.f85 [1, 1, 0, 1, 0] [] n [(3, AV.own 100003 0), (9, AV.d (D.list 1 v0)), (10, AV.d (D.int IntKind.i64 v1)), (11, AV.d (D.int IntKind.i64 v2))] [(100003, Blk.arr 3 1 0 v3)]
theorem F85.L3.zero (k : Nat) (call : CallF)  (v0 : Ovi.Rows) (v1 : Int) (v2 : Int) (v3 : List (List D)) : F85.L3 k call  0 v0 v1 v2 v3 = none := by kernel_rfl
theorem F85.L3.succ (k : Nat) (call : CallF)  (n : Nat) (v0 : Ovi.Rows) (v1 : Int) (v2 : Int) (v3 : List (List D)) : F85.L3 k call  (n + 1) v0 v1 v2 v3 = ite' (decide (v2 < v1)) (ite' (inR v2 (List.length v0)) (bindI (cellI IntKind.i64 v0 v2.toNat 0) fun n8 => bindR (call 103 [AV.d (D.int IntKind.i64 n8)]) fun r9 => bindI (resI IntKind.i64 2 false 1 r9 0 0) fun n10 => bindB (resB 2 false 1 r9 1 0) fun b11 => ite' (b11) (ite' (fits (v3.length + [[D.int IntKind.i64 n10]].length)) (F85.L3 k call  (n) (v0) (v1) (IntKind.i64.wrap (v2 + (1 : Int))) (v3 ++ [[D.int IntKind.i64 n10]])) (none)) (F85.L3 k call  (n) (v0) (v1) (IntKind.i64.wrap (v2 + (1 : Int))) (v3))) (none)) (bindR (call 59 [AV.var 0 0, AV.d (D.int IntKind.i64 (↑3 : Int)), AV.d (D.list 1 v3)]) fun r8 => bindL (resO 3 1 1 false 1 r8 0 0) fun l9 => bindR (call 60 [AV.var 0 0, AV.d (D.int IntKind.i64 (↑3 : Int)), AV.d (D.list 1 l9)]) fun r10 => bindL (resO 3 1 2 false 1 r10 0 0) fun l11 => some ([(false, [RL.row 3 1 l11])])) := by kernel_rfl
theorem F85.eq (k : Nat) (call : CallF) (a0 : Ovi.Rows) : evFnK P hs call (85 : FuncId) k Try.f85 [AV.d (D.list 1 a0)] = F85.L3 k call  (k) (a0) ((↑(List.length a0) : Int)) ((0 : Int)) ([]) := by kernel_rfl
theorem F85.run (k : Nat) (a0 : Ovi.Rows) : C (k + 1) 85 [AV.d (D.list 1 a0)] = F85.L3 k (C k)  (k) (a0) ((↑(List.length a0) : Int)) ((0 : Int)) ([]) := (show C (k + 1) 85 [AV.d (D.list 1 a0)] = evFnK P hs (C k) 85 k Try.f85 [AV.d (D.list 1 a0)] by kernel_rfl).trans (F85.eq k (C k) a0)
noncomputable def F86.L2 (k : Nat) (call : CallF)  (n : Nat) (v0 : Ovi.Rows) (v1 : FuncId) (v2 : Ovi.Rows) (v3 : Int) (v4 : Int) : Option Res := loopFn P hs call 86 k Try.f86 [1, 0, 1, 0] [] n [(0, AV.d (D.list 1 v0)), (1, AV.d (D.fn v1 v2)), (7, AV.d (D.int IntKind.i64 v3)), (8, AV.d (D.int IntKind.i64 v4))] []
theorem F86.L2.zero (k : Nat) (call : CallF)  (v0 : Ovi.Rows) (v1 : FuncId) (v2 : Ovi.Rows) (v3 : Int) (v4 : Int) : F86.L2 k call  0 v0 v1 v2 v3 v4 = none := by kernel_rfl
theorem F86.L2.succ (k : Nat) (call : CallF)  (n : Nat) (v0 : Ovi.Rows) (v1 : FuncId) (v2 : Ovi.Rows) (v3 : Int) (v4 : Int) : F86.L2 k call  (n + 1) v0 v1 v2 v3 v4 = ite' (decide (v4 < v3)) (ite' (inR v4 (List.length v0)) (bindI (cellI IntKind.i64 v0 v4.toNat 0) fun n11 => bindR (call v1 (AV.d (D.int IntKind.i64 n11) :: [].append (List.map (fun (c : List D) => AV.cap c 0) v2))) fun r12 => bindB (resB 1 false 1 r12 0 0) fun b13 => ite' (b13) (some ([(false, [RL.d (D.int IntKind.i64 v4)])])) (F86.L2 k call  (n) (v0) (v1) (v2) (v3) (IntKind.i64.wrap (v4 + (1 : Int))))) (none)) (some ([(false, [RL.d (D.int IntKind.i64 (-1 : Int))])])) := by kernel_rfl
theorem F86.eq (k : Nat) (call : CallF) (a0 : Ovi.Rows) (a1 : FuncId) (a1c : Ovi.Rows) : evFnK P hs call (86 : FuncId) k Try.f86 [AV.d (D.list 1 a0), AV.d (D.fn a1 a1c)] = F86.L2 k call  (k) (a0) (a1) (a1c) ((↑(List.length a0) : Int)) ((0 : Int)) := by kernel_rfl
theorem F86.run (k : Nat) (a0 : Ovi.Rows) (a1 : FuncId) (a1c : Ovi.Rows) : C (k + 1) 86 [AV.d (D.list 1 a0), AV.d (D.fn a1 a1c)] = F86.L2 k (C k)  (k) (a0) (a1) (a1c) ((↑(List.length a0) : Int)) ((0 : Int)) := (show C (k + 1) 86 [AV.d (D.list 1 a0), AV.d (D.fn a1 a1c)] = evFnK P hs (C k) 86 k Try.f86 [AV.d (D.list 1 a0), AV.d (D.fn a1 a1c)] by kernel_rfl).trans (F86.eq k (C k) a0 a1 a1c)
noncomputable def F87.L2 (k : Nat) (call : CallF)  (n : Nat) (v0 : Ovi.Rows) (v1 : Int) (v2 : Int) (v3 : Int) : Option Res := loopFn P hs call 87 k Try.f87 [1, 0, 1, 0] [] n [(0, AV.d (D.list 1 v0)), (1, AV.d (D.int IntKind.i64 v1)), (7, AV.d (D.int IntKind.i64 v2)), (8, AV.d (D.int IntKind.i64 v3))] []
theorem F87.L2.zero (k : Nat) (call : CallF)  (v0 : Ovi.Rows) (v1 : Int) (v2 : Int) (v3 : Int) : F87.L2 k call  0 v0 v1 v2 v3 = none := by kernel_rfl
theorem F87.L2.succ (k : Nat) (call : CallF)  (n : Nat) (v0 : Ovi.Rows) (v1 : Int) (v2 : Int) (v3 : Int) : F87.L2 k call  (n + 1) v0 v1 v2 v3 = ite' (decide (v3 < v2)) (ite' (inR v3 (List.length v0)) (bindI (cellI IntKind.i64 v0 v3.toNat 0) fun n9 => ite' (v1 == n9) (some ([(false, [RL.d (D.int IntKind.i64 v3)])])) (F87.L2 k call  (n) (v0) (v1) (v2) (IntKind.i64.wrap (v3 + (1 : Int))))) (none)) (some ([(false, [RL.d (D.int IntKind.i64 (-1 : Int))])])) := by kernel_rfl
theorem F87.eq (k : Nat) (call : CallF) (a0 : Ovi.Rows) (a1 : Int) : evFnK P hs call (87 : FuncId) k Try.f87 [AV.d (D.list 1 a0), AV.d (D.int IntKind.i64 a1)] = F87.L2 k call  (k) (a0) (a1) ((↑(List.length a0) : Int)) ((0 : Int)) := by kernel_rfl
theorem F87.run (k : Nat) (a0 : Ovi.Rows) (a1 : Int) : C (k + 1) 87 [AV.d (D.list 1 a0), AV.d (D.int IntKind.i64 a1)] = F87.L2 k (C k)  (k) (a0) (a1) ((↑(List.length a0) : Int)) ((0 : Int)) := (show C (k + 1) 87 [AV.d (D.list 1 a0), AV.d (D.int IntKind.i64 a1)] = evFnK P hs (C k) 87 k Try.f87 [AV.d (D.list 1 a0), AV.d (D.int IntKind.i64 a1)] by kernel_rfl).trans (F87.eq k (C k) a0 a1)
theorem F91.eq (k : Nat) (call : CallF) (a0 : Int) (a1 : Int) : evFnK P hs call (91 : FuncId) k Try.f91 [AV.d (D.int IntKind.i64 a0), AV.d (D.int IntKind.i64 a1)] = bindR (call 123 [AV.d (D.int IntKind.i64 a0)]) fun r4 => bindB (resB 1 false 1 r4 0 0) fun b5 => bindR (call 123 [AV.d (D.int IntKind.i64 a1)]) fun r6 => bindB (resB 1 false 1 r6 0 0) fun b7 => ite' (b5) (ite' (b7) (some ([(false, [RL.d (D.int IntKind.i64 (0 : Int))])])) (some ([(false, [RL.d (D.int IntKind.i64 (-1 : Int))])]))) (ite' (b7) (some ([(false, [RL.d (D.int IntKind.i64 (1 : Int))])])) (ite' (decide (a0 < a1)) (some ([(false, [RL.d (D.int IntKind.i64 (-1 : Int))])])) (ite' (decide (a0 > a1)) (some ([(false, [RL.d (D.int IntKind.i64 (1 : Int))])])) (some ([(false, [RL.d (D.int IntKind.i64 (0 : Int))])]))))) := by kernel_rfl
theorem F91.run (k : Nat) (a0 : Int) (a1 : Int) : C (k + 1) 91 [AV.d (D.int IntKind.i64 a0), AV.d (D.int IntKind.i64 a1)] = bindR ((C k) 123 [AV.d (D.int IntKind.i64 a0)]) fun r4 => bindB (resB 1 false 1 r4 0 0) fun b5 => bindR ((C k) 123 [AV.d (D.int IntKind.i64 a1)]) fun r6 => bindB (resB 1 false 1 r6 0 0) fun b7 => ite' (b5) (ite' (b7) (some ([(false, [RL.d (D.int IntKind.i64 (0 : Int))])])) (some ([(false, [RL.d (D.int IntKind.i64 (-1 : Int))])]))) (ite' (b7) (some ([(false, [RL.d (D.int IntKind.i64 (1 : Int))])])) (ite' (decide (a0 < a1)) (some ([(false, [RL.d (D.int IntKind.i64 (-1 : Int))])])) (ite' (decide (a0 > a1)) (some ([(false, [RL.d (D.int IntKind.i64 (1 : Int))])])) (some ([(false, [RL.d (D.int IntKind.i64 (0 : Int))])]))))) := (show C (k + 1) 91 [AV.d (D.int IntKind.i64 a0), AV.d (D.int IntKind.i64 a1)] = evFnK P hs (C k) 91 k Try.f91 [AV.d (D.int IntKind.i64 a0), AV.d (D.int IntKind.i64 a1)] by kernel_rfl).trans (F91.eq k (C k) a0 a1)
theorem F92.eq (k : Nat) (call : CallF) (a0 : Ovi.Rows) (a1 : Int) : evFnK P hs call (92 : FuncId) k Try.f92 [AV.d (D.list 1 a0), AV.d (D.int IntKind.i64 a1)] = ite' (decide (IntKind.i64.wrap (a1 - (↑(List.length a0) : Int)) < (0 : Int))) (some ([(false, [RL.d (D.int IntKind.i64 (-1 : Int))])])) (some ([(false, [RL.d (D.int IntKind.i64 (IntKind.i64.wrap (a1 - (↑(List.length a0) : Int))))])])) := by kernel_rfl
theorem F92.run (k : Nat) (a0 : Ovi.Rows) (a1 : Int) : C (k + 1) 92 [AV.d (D.list 1 a0), AV.d (D.int IntKind.i64 a1)] = ite' (decide (IntKind.i64.wrap (a1 - (↑(List.length a0) : Int)) < (0 : Int))) (some ([(false, [RL.d (D.int IntKind.i64 (-1 : Int))])])) (some ([(false, [RL.d (D.int IntKind.i64 (IntKind.i64.wrap (a1 - (↑(List.length a0) : Int))))])])) := (show C (k + 1) 92 [AV.d (D.list 1 a0), AV.d (D.int IntKind.i64 a1)] = evFnK P hs (C k) 92 k Try.f92 [AV.d (D.list 1 a0), AV.d (D.int IntKind.i64 a1)] by kernel_rfl).trans (F92.eq k (C k) a0 a1)
theorem F93.eq (k : Nat) (call : CallF) (a0 : Int) (a1 : Int) (a2 : Int) : evFnK P hs call (93 : FuncId) k Try.f93 [AV.d (D.int IntKind.i64 a0), AV.d (D.int IntKind.i64 a1), AV.d (D.int IntKind.i64 a2)] = ite' (decide (a0 ≥ a1)) (some ([(false, [RL.d (D.bool (decide (a0 ≤ a2)))])])) (some ([(false, [RL.d (D.bool false)])])) := by kernel_rfl
theorem F93.run (k : Nat) (a0 : Int) (a1 : Int) (a2 : Int) : C (k + 1) 93 [AV.d (D.int IntKind.i64 a0), AV.d (D.int IntKind.i64 a1), AV.d (D.int IntKind.i64 a2)] = ite' (decide (a0 ≥ a1)) (some ([(false, [RL.d (D.bool (decide (a0 ≤ a2)))])])) (some ([(false, [RL.d (D.bool false)])])) := (show C (k + 1) 93 [AV.d (D.int IntKind.i64 a0), AV.d (D.int IntKind.i64 a1), AV.d (D.int IntKind.i64 a2)] = evFnK P hs (C k) 93 k Try.f93 [AV.d (D.int IntKind.i64 a0), AV.d (D.int IntKind.i64 a1), AV.d (D.int IntKind.i64 a2)] by kernel_rfl).trans (F93.eq k (C k) a0 a1 a2)
theorem F94.eq (k : Nat) (call : CallF) (a0 : Int) : evFnK P hs call (94 : FuncId) k Try.f94 [AV.d (D.int IntKind.i64 a0)] = bindR (call 69 [AV.d (D.int IntKind.i64 a0)]) fun r3 => bindI (resI IntKind.i64 2 false 1 r3 0 0) fun n4 => bindB (resB 2 false 1 r3 1 0) fun b5 => ite' (b5) (some ([(false, [RL.d (D.bool true)])])) (bindR (call 93 [AV.d (D.int IntKind.i64 a0), AV.d (D.int IntKind.i64 (0 : Int)), AV.d (D.int IntKind.i64 (9 : Int))]) fun r6 => bindB (resB 1 false 1 r6 0 0) fun b7 => some ([(false, [RL.d (D.bool b7)])])) := by kernel_rfl
theorem F94.run (k : Nat) (a0 : Int) : C (k + 1) 94 [AV.d (D.int IntKind.i64 a0)] = bindR ((C k) 69 [AV.d (D.int IntKind.i64 a0)]) fun r3 => bindI (resI IntKind.i64 2 false 1 r3 0 0) fun n4 => bindB (resB 2 false 1 r3 1 0) fun b5 => ite' (b5) (some ([(false, [RL.d (D.bool true)])])) (bindR ((C k) 93 [AV.d (D.int IntKind.i64 a0), AV.d (D.int IntKind.i64 (0 : Int)), AV.d (D.int IntKind.i64 (9 : Int))]) fun r6 => bindB (resB 1 false 1 r6 0 0) fun b7 => some ([(false, [RL.d (D.bool b7)])])) := (show C (k + 1) 94 [AV.d (D.int IntKind.i64 a0)] = evFnK P hs (C k) 94 k Try.f94 [AV.d (D.int IntKind.i64 a0)] by kernel_rfl).trans (F94.eq k (C k) a0)
noncomputable def F95.L2 (k : Nat) (call : CallF)  (n : Nat) (v0 : Ovi.Rows) (v1 : Ovi.Rows) (v2 : Int) : Option Res := loopFn P hs call 95 k Try.f95 [1, 0, 1, 0] [] n [(0, AV.d (D.list 1 v0)), (1, AV.d (D.list 1 v1)), (5, AV.d (D.int IntKind.i64 v2))] []
theorem F95.L2.zero (k : Nat) (call : CallF)  (v0 : Ovi.Rows) (v1 : Ovi.Rows) (v2 : Int) : F95.L2 k call  0 v0 v1 v2 = none := by kernel_rfl
theorem F95.L2.succ (k : Nat) (call : CallF)  (n : Nat) (v0 : Ovi.Rows) (v1 : Ovi.Rows) (v2 : Int) : F95.L2 k call  (n + 1) v0 v1 v2 = ite' (decide (v2 < (↑(List.length v0) : Int))) (ite' (decide (v2 < (↑(List.length v1) : Int))) (ite' (inR v2 (List.length v0)) (bindI (cellI IntKind.i64 v0 v2.toNat 0) fun n8 => ite' (inR v2 (List.length v1)) (bindI (cellI IntKind.i64 v1 v2.toNat 0) fun n9 => ite' (decide (n8 < n9)) (some ([(false, [RL.d (D.int IntKind.i64 (-1 : Int))])])) (ite' (inR v2 (List.length v0)) (bindI (cellI IntKind.i64 v0 v2.toNat 0) fun n10 => ite' (inR v2 (List.length v1)) (bindI (cellI IntKind.i64 v1 v2.toNat 0) fun n11 => ite' (decide (n10 > n11)) (some ([(false, [RL.d (D.int IntKind.i64 (1 : Int))])])) (F95.L2 k call  (n) (v0) (v1) (IntKind.i64.wrap (v2 + (1 : Int))))) (none)) (none))) (none)) (none)) (ite' (decide ((↑(List.length v0) : Int) < (↑(List.length v1) : Int))) (some ([(false, [RL.d (D.int IntKind.i64 (-1 : Int))])])) (ite' (decide ((↑(List.length v0) : Int) > (↑(List.length v1) : Int))) (some ([(false, [RL.d (D.int IntKind.i64 (1 : Int))])])) (some ([(false, [RL.d (D.int IntKind.i64 (0 : Int))])]))))) (ite' (decide ((↑(List.length v0) : Int) < (↑(List.length v1) : Int))) (some ([(false, [RL.d (D.int IntKind.i64 (-1 : Int))])])) (ite' (decide ((↑(List.length v0) : Int) > (↑(List.length v1) : Int))) (some ([(false, [RL.d (D.int IntKind.i64 (1 : Int))])])) (some ([(false, [RL.d (D.int IntKind.i64 (0 : Int))])])))) := by kernel_rfl
theorem F95.eq (k : Nat) (call : CallF) (a0 : Ovi.Rows) (a1 : Ovi.Rows) : evFnK P hs call (95 : FuncId) k Try.f95 [AV.d (D.list 1 a0), AV.d (D.list 1 a1)] = F95.L2 k call  (k) (a0) (a1) ((0 : Int)) := by kernel_rfl
theorem F95.run (k : Nat) (a0 : Ovi.Rows) (a1 : Ovi.Rows) : C (k + 1) 95 [AV.d (D.list 1 a0), AV.d (D.list 1 a1)] = F95.L2 k (C k)  (k) (a0) (a1) ((0 : Int)) := (show C (k + 1) 95 [AV.d (D.list 1 a0), AV.d (D.list 1 a1)] = evFnK P hs (C k) 95 k Try.f95 [AV.d (D.list 1 a0), AV.d (D.list 1 a1)] by kernel_rfl).trans (F95.eq k (C k) a0 a1)
theorem F96.eq (k : Nat) (call : CallF) (a0_0 : List UInt8) (a0_1 : Int) (a0_2 : Bool) : evFnK P hs call (96 : FuncId) k Try.f96 [AV.agg [AV.d (D.str a0_0), AV.d (D.int IntKind.i64 a0_1), AV.d (D.bool a0_2)]] = ite' ((↑a0_0.length : Int) == (1 : Int)) (ite' (inR (0 : Int) a0_0.length) (ite' (decide (byteAt a0_0 (0 : Int) ≥ (97 : Int))) (ite' (inR (0 : Int) a0_0.length) (ite' (decide (byteAt a0_0 (0 : Int) ≤ (122 : Int))) (bindR (call 93 [AV.d (D.int IntKind.i64 a0_1), AV.d (D.int IntKind.i64 (1 : Int)), AV.d (D.int IntKind.i64 (3 : Int))]) fun r5 => bindB (resB 1 false 1 r5 0 0) fun b6 => some ([(false, [RL.d (D.bool b6)])])) (some ([(false, [RL.d (D.bool false)])]))) (none)) (some ([(false, [RL.d (D.bool false)])]))) (none)) (some ([(false, [RL.d (D.bool false)])])) := by kernel_rfl
theorem F96.run (k : Nat) (a0_0 : List UInt8) (a0_1 : Int) (a0_2 : Bool) : C (k + 1) 96 [AV.agg [AV.d (D.str a0_0), AV.d (D.int IntKind.i64 a0_1), AV.d (D.bool a0_2)]] = ite' ((↑a0_0.length : Int) == (1 : Int)) (ite' (inR (0 : Int) a0_0.length) (ite' (decide (byteAt a0_0 (0 : Int) ≥ (97 : Int))) (ite' (inR (0 : Int) a0_0.length) (ite' (decide (byteAt a0_0 (0 : Int) ≤ (122 : Int))) (bindR ((C k) 93 [AV.d (D.int IntKind.i64 a0_1), AV.d (D.int IntKind.i64 (1 : Int)), AV.d (D.int IntKind.i64 (3 : Int))]) fun r5 => bindB (resB 1 false 1 r5 0 0) fun b6 => some ([(false, [RL.d (D.bool b6)])])) (some ([(false, [RL.d (D.bool false)])]))) (none)) (some ([(false, [RL.d (D.bool false)])]))) (none)) (some ([(false, [RL.d (D.bool false)])])) := (show C (k + 1) 96 [AV.agg [AV.d (D.str a0_0), AV.d (D.int IntKind.i64 a0_1), AV.d (D.bool a0_2)]] = evFnK P hs (C k) 96 k Try.f96 [AV.agg [AV.d (D.str a0_0), AV.d (D.int IntKind.i64 a0_1), AV.d (D.bool a0_2)]] by kernel_rfl).trans (F96.eq k (C k) a0_0 a0_1 a0_2)
theorem F97.eq (k : Nat) (call : CallF) (a0_0 : List UInt8) (a0_1 : Int) (a0_2 : Bool) : evFnK P hs call (97 : FuncId) k Try.f97 [AV.agg [AV.d (D.str a0_0), AV.d (D.int IntKind.i64 a0_1), AV.d (D.bool a0_2)]] = ite' ((↑a0_0.length : Int) == (1 : Int)) (ite' (!sLess a0_0 ([(97 : UInt8)] : List UInt8)) (ite' (sLess a0_0 ([(122 : UInt8)] : List UInt8) || a0_0 == ([(122 : UInt8)] : List UInt8)) (bindR (call 98 [AV.d (D.int IntKind.i64 a0_1), AV.d (D.int IntKind.i64 (1 : Int)), AV.d (D.int IntKind.i64 (3 : Int))]) fun r5 => bindB (resB 1 false 1 r5 0 0) fun b6 => some ([(false, [RL.d (D.bool b6)])])) (some ([(false, [RL.d (D.bool false)])]))) (some ([(false, [RL.d (D.bool false)])]))) (some ([(false, [RL.d (D.bool false)])])) := by kernel_rfl
theorem F97.run (k : Nat) (a0_0 : List UInt8) (a0_1 : Int) (a0_2 : Bool) : C (k + 1) 97 [AV.agg [AV.d (D.str a0_0), AV.d (D.int IntKind.i64 a0_1), AV.d (D.bool a0_2)]] = ite' ((↑a0_0.length : Int) == (1 : Int)) (ite' (!sLess a0_0 ([(97 : UInt8)] : List UInt8)) (ite' (sLess a0_0 ([(122 : UInt8)] : List UInt8) || a0_0 == ([(122 : UInt8)] : List UInt8)) (bindR ((C k) 98 [AV.d (D.int IntKind.i64 a0_1), AV.d (D.int IntKind.i64 (1 : Int)), AV.d (D.int IntKind.i64 (3 : Int))]) fun r5 => bindB (resB 1 false 1 r5 0 0) fun b6 => some ([(false, [RL.d (D.bool b6)])])) (some ([(false, [RL.d (D.bool false)])]))) (some ([(false, [RL.d (D.bool false)])]))) (some ([(false, [RL.d (D.bool false)])])) := (show C (k + 1) 97 [AV.agg [AV.d (D.str a0_0), AV.d (D.int IntKind.i64 a0_1), AV.d (D.bool a0_2)]] = evFnK P hs (C k) 97 k Try.f97 [AV.agg [AV.d (D.str a0_0), AV.d (D.int IntKind.i64 a0_1), AV.d (D.bool a0_2)]] by kernel_rfl).trans (F97.eq k (C k) a0_0 a0_1 a0_2)
theorem F98.eq (k : Nat) (call : CallF) (a0 : Int) (a1 : Int) (a2 : Int) : evFnK P hs call (98 : FuncId) k Try.f98 [AV.d (D.int IntKind.i64 a0), AV.d (D.int IntKind.i64 a1), AV.d (D.int IntKind.i64 a2)] = ite' (decide (a1 ≤ a0)) (some ([(false, [RL.d (D.bool (decide (a0 ≤ a2)))])])) (some ([(false, [RL.d (D.bool false)])])) := by kernel_rfl
theorem F98.run (k : Nat) (a0 : Int) (a1 : Int) (a2 : Int) : C (k + 1) 98 [AV.d (D.int IntKind.i64 a0), AV.d (D.int IntKind.i64 a1), AV.d (D.int IntKind.i64 a2)] = ite' (decide (a1 ≤ a0)) (some ([(false, [RL.d (D.bool (decide (a0 ≤ a2)))])])) (some ([(false, [RL.d (D.bool false)])])) := (show C (k + 1) 98 [AV.d (D.int IntKind.i64 a0), AV.d (D.int IntKind.i64 a1), AV.d (D.int IntKind.i64 a2)] = evFnK P hs (C k) 98 k Try.f98 [AV.d (D.int IntKind.i64 a0), AV.d (D.int IntKind.i64 a1), AV.d (D.int IntKind.i64 a2)] by kernel_rfl).trans (F98.eq k (C k) a0 a1 a2)
theorem F99.eq (k : Nat) (call : CallF) (a0 : Int) : evFnK P hs call (99 : FuncId) k Try.f99 [AV.d (D.int IntKind.i64 a0)] = bindR (call 100 [AV.d (D.int IntKind.i64 a0)]) fun r3 => bindB (resB 1 false 1 r3 0 0) fun b4 => some ([(false, [RL.d (D.bool !b4)])]) := by kernel_rfl
theorem F99.run (k : Nat) (a0 : Int) : C (k + 1) 99 [AV.d (D.int IntKind.i64 a0)] = bindR ((C k) 100 [AV.d (D.int IntKind.i64 a0)]) fun r3 => bindB (resB 1 false 1 r3 0 0) fun b4 => some ([(false, [RL.d (D.bool !b4)])]) := (show C (k + 1) 99 [AV.d (D.int IntKind.i64 a0)] = evFnK P hs (C k) 99 k Try.f99 [AV.d (D.int IntKind.i64 a0)] by kernel_rfl).trans (F99.eq k (C k) a0)
theorem F100.eq (k : Nat) (call : CallF) (a0 : Int) : evFnK P hs call (100 : FuncId) k Try.f100 [AV.d (D.int IntKind.i64 a0)] = bindR (call 98 [AV.d (D.int IntKind.i64 a0), AV.d (D.int IntKind.i64 (-40 : Int)), AV.d (D.int IntKind.i64 (9 : Int))]) fun r3 => bindB (resB 1 false 1 r3 0 0) fun b4 => some ([(false, [RL.d (D.bool b4)])]) := by kernel_rfl
theorem F100.run (k : Nat) (a0 : Int) : C (k + 1) 100 [AV.d (D.int IntKind.i64 a0)] = bindR ((C k) 98 [AV.d (D.int IntKind.i64 a0), AV.d (D.int IntKind.i64 (-40 : Int)), AV.d (D.int IntKind.i64 (9 : Int))]) fun r3 => bindB (resB 1 false 1 r3 0 0) fun b4 => some ([(false, [RL.d (D.bool b4)])]) := (show C (k + 1) 100 [AV.d (D.int IntKind.i64 a0)] = evFnK P hs (C k) 100 k Try.f100 [AV.d (D.int IntKind.i64 a0)] by kernel_rfl).trans (F100.eq k (C k) a0)
noncomputable def F101.L3 (k : Nat) (call : CallF)  (n : Nat) (v0 : Int) (v1 : Ovi.Rows) (v2 : Int) (v3 : Int) : Option Res := loopFn P hs call 101 k Try.f101 [1, 1, 0, 1, 0] [] n [(3, AV.d (D.int IntKind.i64 v0)), (6, AV.d (D.list 1 v1)), (7, AV.d (D.int IntKind.i64 v2)), (8, AV.d (D.int IntKind.i64 v3))] []
theorem F101.L3.zero (k : Nat) (call : CallF)  (v0 : Int) (v1 : Ovi.Rows) (v2 : Int) (v3 : Int) : F101.L3 k call  0 v0 v1 v2 v3 = none := by kernel_rfl
theorem F101.L3.succ (k : Nat) (call : CallF)  (n : Nat) (v0 : Int) (v1 : Ovi.Rows) (v2 : Int) (v3 : Int) : F101.L3 k call  (n + 1) v0 v1 v2 v3 = ite' (decide (v3 < v2)) (ite' (inR v3 (List.length v1)) (bindI (cellI IntKind.i64 v1 v3.toNat 0) fun n8 => ite' (n8 != v0) (some ([(false, [RL.d (D.int IntKind.i64 n8)])])) (F101.L3 k call  (n) (v0) (v1) (v2) (IntKind.i64.wrap (v3 + (1 : Int))))) (none)) (some ([(false, [RL.d (D.int IntKind.i64 v0)])])) := by kernel_rfl
theorem F101.eq (k : Nat) (call : CallF) (a0 : Ovi.Rows) : evFnK P hs call (101 : FuncId) k Try.f101 [AV.d (D.list 1 a0)] = F101.L3 k call  (k) ((0 : Int)) (a0) ((↑(List.length a0) : Int)) ((0 : Int)) := by kernel_rfl
theorem F101.run (k : Nat) (a0 : Ovi.Rows) : C (k + 1) 101 [AV.d (D.list 1 a0)] = F101.L3 k (C k)  (k) ((0 : Int)) (a0) ((↑(List.length a0) : Int)) ((0 : Int)) := (show C (k + 1) 101 [AV.d (D.list 1 a0)] = evFnK P hs (C k) 101 k Try.f101 [AV.d (D.list 1 a0)] by kernel_rfl).trans (F101.eq k (C k) a0)
theorem F103.eq (k : Nat) (call : CallF) (a0 : Int) : evFnK P hs call (103 : FuncId) k Try.f103 [AV.d (D.int IntKind.i64 a0)] = bindR (call 98 [AV.d (D.int IntKind.i64 (IntKind.i64.wrap ((-1 : Int) - a0))), AV.d (D.int IntKind.i64 (0 : Int)), AV.d (D.int IntKind.i64 (39 : Int))]) fun r3 => bindB (resB 1 false 1 r3 0 0) fun b4 => ite' (!b4) (some ([(false, [RL.d (D.int IntKind.i64 (0 : Int))]), (false, [RL.d (D.bool false)])])) (some ([(false, [RL.d (D.int IntKind.i64 (IntKind.i64.wrap ((-1 : Int) - a0)))]), (false, [RL.d (D.bool true)])])) := by kernel_rfl
theorem F103.run (k : Nat) (a0 : Int) : C (k + 1) 103 [AV.d (D.int IntKind.i64 a0)] = bindR ((C k) 98 [AV.d (D.int IntKind.i64 (IntKind.i64.wrap ((-1 : Int) - a0))), AV.d (D.int IntKind.i64 (0 : Int)), AV.d (D.int IntKind.i64 (39 : Int))]) fun r3 => bindB (resB 1 false 1 r3 0 0) fun b4 => ite' (!b4) (some ([(false, [RL.d (D.int IntKind.i64 (0 : Int))]), (false, [RL.d (D.bool false)])])) (some ([(false, [RL.d (D.int IntKind.i64 (IntKind.i64.wrap ((-1 : Int) - a0)))]), (false, [RL.d (D.bool true)])])) := (show C (k + 1) 103 [AV.d (D.int IntKind.i64 a0)] = evFnK P hs (C k) 103 k Try.f103 [AV.d (D.int IntKind.i64 a0)] by kernel_rfl).trans (F103.eq k (C k) a0)
theorem F110.eq (k : Nat) (call : CallF) (a0 : Int) (a1 : Int) : evFnK P hs call (110 : FuncId) k Try.f110 [AV.d (D.int IntKind.i64 a0), AV.d (D.int IntKind.i64 a1)] = bindR (call 123 [AV.d (D.int IntKind.i64 a0)]) fun r4 => bindB (resB 1 false 1 r4 0 0) fun b5 => ite' (b5) (bindR (call 123 [AV.d (D.int IntKind.i64 a1)]) fun r6 => bindB (resB 1 false 1 r6 0 0) fun b7 => ite' (!b7) (some ([(false, [RL.d (D.bool true)])])) (some ([(false, [RL.d (D.bool (decide (a0 < a1)))])]))) (some ([(false, [RL.d (D.bool (decide (a0 < a1)))])])) := by kernel_rfl
theorem F110.run (k : Nat) (a0 : Int) (a1 : Int) : C (k + 1) 110 [AV.d (D.int IntKind.i64 a0), AV.d (D.int IntKind.i64 a1)] = bindR ((C k) 123 [AV.d (D.int IntKind.i64 a0)]) fun r4 => bindB (resB 1 false 1 r4 0 0) fun b5 => ite' (b5) (bindR ((C k) 123 [AV.d (D.int IntKind.i64 a1)]) fun r6 => bindB (resB 1 false 1 r6 0 0) fun b7 => ite' (!b7) (some ([(false, [RL.d (D.bool true)])])) (some ([(false, [RL.d (D.bool (decide (a0 < a1)))])]))) (some ([(false, [RL.d (D.bool (decide (a0 < a1)))])])) := (show C (k + 1) 110 [AV.d (D.int IntKind.i64 a0), AV.d (D.int IntKind.i64 a1)] = evFnK P hs (C k) 110 k Try.f110 [AV.d (D.int IntKind.i64 a0), AV.d (D.int IntKind.i64 a1)] by kernel_rfl).trans (F110.eq k (C k) a0 a1)
theorem F123.eq (k : Nat) (call : CallF) (a0 : Int) : evFnK P hs call (123 : FuncId) k Try.f123 [AV.d (D.int IntKind.i64 a0)] = some ([(false, [RL.d (D.bool (a0 != a0))])]) := by kernel_rfl
theorem F123.run (k : Nat) (a0 : Int) : C (k + 1) 123 [AV.d (D.int IntKind.i64 a0)] = some ([(false, [RL.d (D.bool (a0 != a0))])]) := (show C (k + 1) 123 [AV.d (D.int IntKind.i64 a0)] = evFnK P hs (C k) 123 k Try.f123 [AV.d (D.int IntKind.i64 a0)] by kernel_rfl).trans (F123.eq k (C k) a0)

end Go.Proofs.Ytjfdcddjheandaa.Q

/-! NGa -/

namespace Go.Proofs.Ytjfdcddjheandaa.Q
open Go Ovi
/-- laws.toIntS -/
theorem l10 {k : Nat} (hk : 2000000 ≤ k) {a : Ovi.Rows} (ha : Fit (.list [.int .i64]) (.list 1 a)) (hs : szR a ≤ 1048576) : ∀ (m i n : Nat) (v : Ovi.Rows), Filled a v i 1 → i + m = a.length → m < n → F10.L3 k (C k) n a (i : Int) v = some [(false, [.row 3 1 a])] := by
  have hlen := ha.len
  intro m; induction m with
  | zero =>
    intro i n v hv hm hn
    obtain ⟨n, rfl⟩ : ∃ j, n = j + 1 := ⟨n - 1, by omega⟩
    obtain rfl : i = a.length := by omega
    rw [F10.L3.succ, ite'_f (lt_f (by omega)), hv.done]
  | succ m ih =>
    intro i n v hv hm hn
    obtain ⟨n, rfl⟩ : ∃ j, n = j + 1 := ⟨n - 1, by omega⟩
    obtain ⟨row, hr, hfr, hdr⟩ := ha.row (i := i) (by omega)
    obtain ⟨d0, rr0, rfl, hd0, hfr0⟩ := Fits.cons hfr
    obtain ⟨x0, rfl, wx0⟩ := hd0.int
    obtain rfl := Fits.nil hfr0
    have hst := hv.step hr rfl
    have hvl := hv.1
    have hszr := szR_at hr
    rw [F10.L3.succ, ite'_t (lt_t (by omega)), ite'_t (inR_t (by omega))]
    simp only [Int.toNat_natCast, cellI_at hr, cellB_at hr, cellS_at hr, cellL_at hr]
    simp only [List.getElem?_cons_zero, List.getElem?_cons_succ, Option.bind_some, asI_s, asB_s, asS_s, asL_s, bindI_s, bindB_s, bindS_s, bindL_s, bindR_s, resI_s, resB_s, resS_s, resO_s, bne_self_eq_false, beq_self_eq_true, Bool.not_true]
    rw [ite'_t (inR_t (by omega)), wrap_succ (m := a.length) (by omega) (by omega) hlen]
    rw [show ((i : Int) + 1) = ((i + 1 : Nat) : Int) by omega]
    exact ih (i + 1) n _ hst (by omega) (by omega)
theorem c10 {k : Nat} (hk : 2000001 ≤ k) {a : Ovi.Rows} (ha : Fit (.list [.int .i64]) (.list 1 a)) (hs : szD (.list 1 a) ≤ 1048576) : C k 10 [.d (.list 1 a)] = some [(false, [.row 3 1 a])] := by
  obtain ⟨k, rfl⟩ : ∃ j, k = j + 1 := ⟨k - 1, by omega⟩
  simp only [szD] at hs
  rw [F10.run, ite'_t (beq_t _), ite'_t (inM_t (by omega))]
  exact l10 (k := k) (by omega) ha (by omega) a.length 0 k _ (Filled.start a _) (by omega) (by omega)
/-- laws.eqIntS -/
theorem l13 {k : Nat} (hk : 2000000 ≤ k) {a : Ovi.Rows} (ha : Fit (.list [.int .i64]) (.list 1 a)) (hs : szR a ≤ 1048576) : ∀ (m i n : Nat), i + m = a.length → m < n → F13.L4 k (C k) n a a (i : Int) = some [(false, [.d (.bool true)])] := by
  have hlen := ha.len
  intro m; induction m with
  | zero =>
    intro i n hm hn
    obtain ⟨n, rfl⟩ : ∃ j, n = j + 1 := ⟨n - 1, by omega⟩
    rw [F13.L4.succ, ite'_f (lt_f (by omega))]
  | succ m ih =>
    intro i n hm hn
    obtain ⟨n, rfl⟩ : ∃ j, n = j + 1 := ⟨n - 1, by omega⟩
    obtain ⟨row, hr, hfr, hdr⟩ := ha.row (i := i) (by omega)
    obtain ⟨d0, rr0, rfl, hd0, hfr0⟩ := Fits.cons hfr
    obtain ⟨x0, rfl, wx0⟩ := hd0.int
    obtain rfl := Fits.nil hfr0
    have hszr := szR_at hr
    rw [F13.L4.succ, ite'_t (lt_t (by omega)), ite'_t (inR_t (by omega))]
    simp only [Int.toNat_natCast, cellI_at hr, cellB_at hr, cellS_at hr, cellL_at hr]
    simp only [List.getElem?_cons_zero, List.getElem?_cons_succ, Option.bind_some, asI_s, asB_s, asS_s, asL_s, bindI_s, bindB_s, bindS_s, bindL_s, bindR_s, resI_s, resB_s, resS_s, resO_s, bne_self_eq_false, beq_self_eq_true, Bool.not_true]
    rw [ite'_t (inR_t (by omega))]
    rw [ite'_f rfl, wrap_succ (m := a.length) (by omega) (by omega) hlen]
    rw [show ((i : Int) + 1) = ((i + 1 : Nat) : Int) by omega]
    exact ih (i + 1) n (by omega) (by omega)
theorem c13 {k : Nat} (hk : 2000001 ≤ k) {a : Ovi.Rows} (ha : Fit (.list [.int .i64]) (.list 1 a)) (hs : szD (.list 1 a) ≤ 1048576) : C k 13 [.d (.list 1 a), .d (.list 1 a)] = some [(false, [.d (.bool true)])] := by
  obtain ⟨k, rfl⟩ : ∃ j, k = j + 1 := ⟨k - 1, by omega⟩
  simp only [szD] at hs
  rw [F13.run, ite'_f (bne_f _)]
  exact l13 (k := k) (by omega) ha (by omega) a.length 0 k (by omega) (by omega)
/-- laws.szRelation -/
theorem c64 {k : Nat} (hk : 2000001 ≤ k) {a0 : List UInt8} (ha0 : a0.length ≤ maxLen) {a1 : Int} {a2 : Bool} {left : Int} (h0 : 0 ≤ left) (h1 : left ≤ 1048576) : C k 64 [.agg [.d (.str a0), .d (.int .i64 a1), .d (.bool a2)], .d (.int .i64 left)] = some [(false, [.d (.int .i64 (szT left (szC [.str a0, .int .i64 a1, .bool a2])))])] := by
  obtain ⟨k, rfl⟩ : ∃ j, k = j + 1 := ⟨k - 1, by omega⟩
  have eT : szC [.str a0, .int .i64 a1, .bool a2] = ((a0.length : Nat)) := by simp only [szC, szD] <;> omega
  rw [eT, F64.run]
  unfold maxLen at ha0
  rw [wrap_id (n := left - (a0.length : Int)) (by omega) (by omega)]
  rcases szT_cases (left) ((a0.length : Nat)) with ⟨q0, e0⟩ | ⟨q0, e0⟩
  rotate_left
  · rw [ite'_t (by simp only [decide_eq_true_eq]; omega)] <;> first | rfl | rw [szT_neg (by omega)]
  rw [ite'_f (neg_f (by omega))] <;> first | rfl | (rw [szT_pos (by omega)] <;> (congr 6 <;> omega))
/-- laws.toRelation -/
theorem F71x0 {a0 : List UInt8} {a1 : Int} {a2 : Bool} : resS 1 true 3 [(true, [.d (.str a0), .d (.int .i64 a1), .d (.bool a2)])] 0 0 = some a0 := rfl
theorem F71x1 {a0 : List UInt8} {a1 : Int} {a2 : Bool} : resI .i64 1 true 3 [(true, [.d (.str a0), .d (.int .i64 a1), .d (.bool a2)])] 0 1 = some a1 := rfl
theorem F71x2 {a0 : List UInt8} {a1 : Int} {a2 : Bool} : resB 1 true 3 [(true, [.d (.str a0), .d (.int .i64 a1), .d (.bool a2)])] 0 2 = some a2 := rfl
theorem c71 {k : Nat} (hk : 2000001 ≤ k) {a0 : List UInt8} (ha0 : a0.length ≤ maxLen) {a1 : Int} {a2 : Bool}  : C k 71 [.agg [.d (.str a0), .d (.int .i64 a1), .d (.bool a2)]] = some [(true, [.d (.str a0), .d (.int .i64 a1), .d (.bool a2)])] := by
  obtain ⟨k, rfl⟩ : ∃ j, k = j + 1 := ⟨k - 1, by omega⟩
  rw [F71.run]
/-- laws.eqRelation -/
theorem c80 {k : Nat} (hk : 2000001 ≤ k) {a0 : List UInt8} (ha0 : a0.length ≤ maxLen) {a1 : Int} {a2 : Bool}  : C k 80 [.agg [.d (.str a0), .d (.int .i64 a1), .d (.bool a2)], .agg [.d (.str a0), .d (.int .i64 a1), .d (.bool a2)]] = some [(false, [.d (.bool true)])] := by
  obtain ⟨k, rfl⟩ : ∃ j, k = j + 1 := ⟨k - 1, by omega⟩
  rw [F80.run]
  simp only [List.getElem?_cons_zero, List.getElem?_cons_succ, Option.bind_some, asI_s, asB_s, asS_s, asL_s, bindI_s, bindB_s, bindS_s, bindL_s, bindR_s, resI_s, resB_s, resS_s, resO_s, bne_self_eq_false, beq_self_eq_true, Bool.not_true]
  rfl
/-- laws.szIntS -/
theorem c92 {k : Nat} (hk : 2000001 ≤ k) {a : Ovi.Rows} (ha : Fit (.list [.int .i64]) (.list 1 a)) {left : Int} (h0 : 0 ≤ left) (h1 : left ≤ 1048576) : C k 92 [.d (.list 1 a), .d (.int .i64 left)] = some [(false, [.d (.int .i64 (szT left (szD (.list 1 a))))])] := by
  obtain ⟨k, rfl⟩ : ∃ j, k = j + 1 := ⟨k - 1, by omega⟩
  have hlen := ha.len; unfold maxLen at hlen
  have hz : szR a = 0 := by
    clear hlen h0 h1
    induction a with
    | nil => rfl
    | cons r rs ih =>
      simp only [Fit, List.length_cons, List.mem_cons, forall_eq_or_imp] at ha
      obtain ⟨q1, q2, hfr, q4⟩ := ha
      obtain ⟨d0, rr0, rfl, hd0, hfr0⟩ := Fits.cons hfr
      obtain ⟨x0, rfl, wx0⟩ := hd0.int
      obtain rfl := Fits.nil hfr0
      simp only [szR, szC, szD]
      rw [ih (by simp only [Fit]; exact ⟨q1, by omega, q4⟩)]
  rw [F92.run, wrap_id (by omega) (by omega)]
  simp only [szD, hz, Nat.add_zero]
  rcases szT_cases left a.length with ⟨q, e⟩ | ⟨q, e⟩ <;> rw [e]
  · rw [ite'_f (neg_f (by omega))]
  · rw [ite'_t (by simp only [decide_eq_true_eq]; omega)]
/-- laws.szRelationS -/
theorem l29 {k : Nat} (hk : 2000001 ≤ k) {a : Ovi.Rows} (ha : Fit (.list [.str, .int .i64, .bool]) (.list 3 a)) : ∀ (m i n : Nat) (left : Int), 0 ≤ left → left ≤ 1048576 → i + m = a.length → m < n → F29.L5 k (C k) n a left (i : Int) = some [(false, [.d (.int .i64 (szT left (szR (a.drop i))))])] := by
  have hlen := ha.len
  intro m; induction m with
  | zero =>
    intro i n left h0 h1 hm hn
    obtain ⟨n, rfl⟩ : ∃ j, n = j + 1 := ⟨n - 1, by omega⟩
    rw [F29.L5.succ, ite'_f (lt_f (by omega)), List.drop_eq_nil_of_le (by omega)]
    simp only [szR, szT_pos (left := left) (s := 0) (by omega)]
    simp
  | succ m ih =>
    intro i n left h0 h1 hm hn
    obtain ⟨n, rfl⟩ : ∃ j, n = j + 1 := ⟨n - 1, by omega⟩
    obtain ⟨row, hr, hfr, hdr⟩ := ha.row (i := i) (by omega)
    obtain ⟨d0, rr0, rfl, hd0, hfr0⟩ := Fits.cons hfr
    obtain ⟨x0, rfl, hx0⟩ := hd0.str
    obtain ⟨d1, rr1, rfl, hd1, hfr1⟩ := Fits.cons hfr0
    obtain ⟨x1, rfl, wx1⟩ := hd1.int
    obtain ⟨d2, rr2, rfl, hd2, hfr2⟩ := Fits.cons hfr1
    obtain ⟨x2, rfl⟩ := hd2.bool
    obtain rfl := Fits.nil hfr2
    have eR : szR (a.drop i) = szC [.str x0, .int .i64 x1, .bool x2] + szR (a.drop (i + 1)) := by rw [hdr]; rfl
    rw [F29.L5.succ, ite'_t (lt_t (by omega)), ite'_t (inR_t (by omega)), eR]
    simp only [Int.toNat_natCast, cellI_at hr, cellB_at hr, cellS_at hr, cellL_at hr]
    simp only [List.getElem?_cons_zero, List.getElem?_cons_succ, Option.bind_some, asI_s, asB_s, asS_s, asL_s, bindI_s, bindB_s, bindS_s, bindL_s, bindR_s, resI_s, resB_s, resS_s, resO_s, bne_self_eq_false, beq_self_eq_true, Bool.not_true]
    have cc := c64 (k := k) (by omega) (a1 := x1) (a2 := x2) hx0 h0 h1
    rw [cc]
    simp only [List.getElem?_cons_zero, List.getElem?_cons_succ, Option.bind_some, asI_s, asB_s, asS_s, asL_s, bindI_s, bindB_s, bindS_s, bindL_s, bindR_s, resI_s, resB_s, resS_s, resO_s, bne_self_eq_false, beq_self_eq_true, Bool.not_true]
    rcases szT_cases left (szC [.str x0, .int .i64 x1, .bool x2]) with ⟨q, e⟩ | ⟨q, e⟩ <;> rw [e]
    · rw [ite'_f (neg_f (by omega)), wrap_succ (m := a.length) (by omega) (by omega) hlen]
      have := ih (i + 1) n (left - ((szC [.str x0, .int .i64 x1, .bool x2] : Nat) : Int)) (by omega) (by omega) (by omega) (by omega)
      rw [show ((i : Int) + 1) = ((i + 1 : Nat) : Int) by omega, this]
      rcases szT_cases (left - ((szC [.str x0, .int .i64 x1, .bool x2] : Nat) : Int)) (szR (a.drop (i + 1))) with ⟨q2, e2⟩ | ⟨q2, e2⟩ <;> rw [e2]
      · rw [szT_pos (by omega)] <;> (congr 6 <;> omega)
      · rw [szT_neg (by omega)]
    · rw [ite'_t neg_t, szT_neg (by omega)]
theorem c29 {k : Nat} (hk : 2000002 ≤ k) {a : Ovi.Rows} (ha : Fit (.list [.str, .int .i64, .bool]) (.list 3 a)) {left : Int} (h0 : 0 ≤ left) (h1 : left ≤ 1048576) : C k 29 [.d (.list 3 a), .d (.int .i64 left)] = some [(false, [.d (.int .i64 (szT left (szD (.list 3 a))))])] := by
  obtain ⟨k, rfl⟩ : ∃ j, k = j + 1 := ⟨k - 1, by omega⟩
  have hlen := ha.len; unfold maxLen at hlen
  rw [F29.run, wrap_id (by omega) (by omega)]
  have eD : szD (.list 3 a) = a.length + szR a := by simp only [szD]
  rw [eD]
  rcases szT_cases left a.length with ⟨q, e⟩ | ⟨q, e⟩
  · rw [ite'_f (neg_f (by omega))]
    have := l29 (k := k) (by omega) ha a.length 0 k (left - (a.length : Int)) (by omega) (by omega) (by omega) (by omega)
    rw [List.drop_zero] at this
    rw [show ((0 : Int)) = ((0 : Nat) : Int) by rfl, this]
    rcases szT_cases (left - (a.length : Int)) (szR a) with ⟨q2, e2⟩ | ⟨q2, e2⟩ <;> rw [e2]
    · rw [szT_pos (by omega)] <;> (congr 6 <;> omega)
    · rw [szT_neg (by omega)]
  · rw [ite'_t (by simp only [decide_eq_true_eq]; omega), szT_neg (by omega)]
/-- laws.toRelationS -/
theorem l35 {k : Nat} (hk : 2000001 ≤ k) {a : Ovi.Rows} (ha : Fit (.list [.str, .int .i64, .bool]) (.list 3 a)) (hs : szR a ≤ 1048576) : ∀ (m i n : Nat) (v : Ovi.Rows), Filled a v i 3 → i + m = a.length → m < n → F35.L3 k (C k) n a (i : Int) v = some [(false, [.row 87 3 a])] := by
  have hlen := ha.len
  intro m; induction m with
  | zero =>
    intro i n v hv hm hn
    obtain ⟨n, rfl⟩ : ∃ j, n = j + 1 := ⟨n - 1, by omega⟩
    obtain rfl : i = a.length := by omega
    rw [F35.L3.succ, ite'_f (lt_f (by omega)), hv.done]
  | succ m ih =>
    intro i n v hv hm hn
    obtain ⟨n, rfl⟩ : ∃ j, n = j + 1 := ⟨n - 1, by omega⟩
    obtain ⟨row, hr, hfr, hdr⟩ := ha.row (i := i) (by omega)
    obtain ⟨d0, rr0, rfl, hd0, hfr0⟩ := Fits.cons hfr
    obtain ⟨x0, rfl, hx0⟩ := hd0.str
    obtain ⟨d1, rr1, rfl, hd1, hfr1⟩ := Fits.cons hfr0
    obtain ⟨x1, rfl, wx1⟩ := hd1.int
    obtain ⟨d2, rr2, rfl, hd2, hfr2⟩ := Fits.cons hfr1
    obtain ⟨x2, rfl⟩ := hd2.bool
    obtain rfl := Fits.nil hfr2
    have hst := hv.step hr rfl
    have hvl := hv.1
    have hszr := szR_at hr
    rw [F35.L3.succ, ite'_t (lt_t (by omega)), ite'_t (inR_t (by omega))]
    simp only [Int.toNat_natCast, cellI_at hr, cellB_at hr, cellS_at hr, cellL_at hr]
    simp only [List.getElem?_cons_zero, List.getElem?_cons_succ, Option.bind_some, asI_s, asB_s, asS_s, asL_s, bindI_s, bindB_s, bindS_s, bindL_s, bindR_s, resI_s, resB_s, resS_s, resO_s, bne_self_eq_false, beq_self_eq_true, Bool.not_true]
    rw [c71 (k := k) (by omega) (a1 := x1) (a2 := x2) hx0 ]
    simp only [List.getElem?_cons_zero, List.getElem?_cons_succ, Option.bind_some, asI_s, asB_s, asS_s, asL_s, bindI_s, bindB_s, bindS_s, bindL_s, bindR_s, resI_s, resB_s, resS_s, resO_s, bne_self_eq_false, beq_self_eq_true, Bool.not_true]
    simp only [F71x0, F71x1, F71x2]
    simp only [List.getElem?_cons_zero, List.getElem?_cons_succ, Option.bind_some, asI_s, asB_s, asS_s, asL_s, bindI_s, bindB_s, bindS_s, bindL_s, bindR_s, resI_s, resB_s, resS_s, resO_s, bne_self_eq_false, beq_self_eq_true, Bool.not_true]
    rw [ite'_t (inR_t (by omega)), wrap_succ (m := a.length) (by omega) (by omega) hlen]
    rw [show ((i : Int) + 1) = ((i + 1 : Nat) : Int) by omega]
    exact ih (i + 1) n _ hst (by omega) (by omega)
theorem c35 {k : Nat} (hk : 2000002 ≤ k) {a : Ovi.Rows} (ha : Fit (.list [.str, .int .i64, .bool]) (.list 3 a)) (hs : szD (.list 3 a) ≤ 1048576) : C k 35 [.d (.list 3 a)] = some [(false, [.row 87 3 a])] := by
  obtain ⟨k, rfl⟩ : ∃ j, k = j + 1 := ⟨k - 1, by omega⟩
  simp only [szD] at hs
  rw [F35.run, ite'_t (beq_t _), ite'_t (inM_t (by omega))]
  exact l35 (k := k) (by omega) ha (by omega) a.length 0 k _ (Filled.start a _) (by omega) (by omega)
/-- laws.eqRelationS -/
theorem l42 {k : Nat} (hk : 2000001 ≤ k) {a : Ovi.Rows} (ha : Fit (.list [.str, .int .i64, .bool]) (.list 3 a)) (hs : szR a ≤ 1048576) : ∀ (m i n : Nat), i + m = a.length → m < n → F42.L4 k (C k) n a a (i : Int) = some [(false, [.d (.bool true)])] := by
  have hlen := ha.len
  intro m; induction m with
  | zero =>
    intro i n hm hn
    obtain ⟨n, rfl⟩ : ∃ j, n = j + 1 := ⟨n - 1, by omega⟩
    rw [F42.L4.succ, ite'_f (lt_f (by omega))]
  | succ m ih =>
    intro i n hm hn
    obtain ⟨n, rfl⟩ : ∃ j, n = j + 1 := ⟨n - 1, by omega⟩
    obtain ⟨row, hr, hfr, hdr⟩ := ha.row (i := i) (by omega)
    obtain ⟨d0, rr0, rfl, hd0, hfr0⟩ := Fits.cons hfr
    obtain ⟨x0, rfl, hx0⟩ := hd0.str
    obtain ⟨d1, rr1, rfl, hd1, hfr1⟩ := Fits.cons hfr0
    obtain ⟨x1, rfl, wx1⟩ := hd1.int
    obtain ⟨d2, rr2, rfl, hd2, hfr2⟩ := Fits.cons hfr1
    obtain ⟨x2, rfl⟩ := hd2.bool
    obtain rfl := Fits.nil hfr2
    have hszr := szR_at hr
    rw [F42.L4.succ, ite'_t (lt_t (by omega)), ite'_t (inR_t (by omega))]
    simp only [Int.toNat_natCast, cellI_at hr, cellB_at hr, cellS_at hr, cellL_at hr]
    simp only [List.getElem?_cons_zero, List.getElem?_cons_succ, Option.bind_some, asI_s, asB_s, asS_s, asL_s, bindI_s, bindB_s, bindS_s, bindL_s, bindR_s, resI_s, resB_s, resS_s, resO_s, bne_self_eq_false, beq_self_eq_true, Bool.not_true]
    rw [ite'_t (inR_t (by omega))]
    rw [c80 (k := k) (by omega) (a1 := x1) (a2 := x2) hx0 ]
    simp only [List.getElem?_cons_zero, List.getElem?_cons_succ, Option.bind_some, asI_s, asB_s, asS_s, asL_s, bindI_s, bindB_s, bindS_s, bindL_s, bindR_s, resI_s, resB_s, resS_s, resO_s, bne_self_eq_false, beq_self_eq_true, Bool.not_true]
    rw [ite'_f rfl, wrap_succ (m := a.length) (by omega) (by omega) hlen]
    rw [show ((i : Int) + 1) = ((i + 1 : Nat) : Int) by omega]
    exact ih (i + 1) n (by omega) (by omega)
theorem c42 {k : Nat} (hk : 2000002 ≤ k) {a : Ovi.Rows} (ha : Fit (.list [.str, .int .i64, .bool]) (.list 3 a)) (hs : szD (.list 3 a) ≤ 1048576) : C k 42 [.d (.list 3 a), .d (.list 3 a)] = some [(false, [.d (.bool true)])] := by
  obtain ⟨k, rfl⟩ : ∃ j, k = j + 1 := ⟨k - 1, by omega⟩
  simp only [szD] at hs
  rw [F42.run, ite'_f (bne_f _)]
  exact l42 (k := k) (by omega) ha (by omega) a.length 0 k (by omega) (by omega)
/-- laws.szFact -/
theorem c65 {k : Nat} (hk : 2000002 ≤ k) {a0 : Int} {a1 : Ovi.Rows} (ha1 : Fit (.list [.int .i64]) (.list 1 a1)) {left : Int} (h0 : 0 ≤ left) (h1 : left ≤ 1048576) : C k 65 [.agg [.d (.int .i64 a0), .d (.list 1 a1)], .d (.int .i64 left)] = some [(false, [.d (.int .i64 (szT left (szC [.int .i64 a0, .list 1 a1])))])] := by
  obtain ⟨k, rfl⟩ : ∃ j, k = j + 1 := ⟨k - 1, by omega⟩
  have eT : szC [.int .i64 a0, .list 1 a1] = (szD (.list 1 a1)) := by simp only [szC, szD] <;> omega
  rw [eT, F65.run]
  rw [c92 (k := k) (by omega)  ha1 (left := left) (by omega) (by omega)]
  simp only [List.getElem?_cons_zero, List.getElem?_cons_succ, Option.bind_some, asI_s, asB_s, asS_s, asL_s, bindI_s, bindB_s, bindS_s, bindL_s, bindR_s, resI_s, resB_s, resS_s, resO_s, bne_self_eq_false, beq_self_eq_true, Bool.not_true]
  rcases szT_cases (left) (szD (.list 1 a1)) with ⟨q0, e0⟩ | ⟨q0, e0⟩ <;> rw [e0]
  rotate_left
  · rw [ite'_t (by simp only [decide_eq_true_eq]; omega)] <;> first | rfl | rw [szT_neg (by omega)]
  rw [ite'_f (neg_f (by omega))] <;> first | rfl | (rw [szT_pos (by omega)] <;> (congr 6 <;> omega))
/-- laws.toFact -/
theorem F72x0 {a0 : Int} {a1 : Ovi.Rows} : resI .i64 1 true 2 [(true, [.d (.int .i64 a0), .row 3 1 a1])] 0 0 = some a0 := rfl
theorem F72x1 {a0 : Int} {a1 : Ovi.Rows} : resO 3 1 1 true 2 [(true, [.d (.int .i64 a0), .row 3 1 a1])] 0 1 = some a1 := rfl
theorem c72 {k : Nat} (hk : 2000002 ≤ k) {a0 : Int} {a1 : Ovi.Rows} (ha1 : Fit (.list [.int .i64]) (.list 1 a1)) (s1 : szD (.list 1 a1) ≤ 1048576) : C k 72 [.agg [.d (.int .i64 a0), .d (.list 1 a1)]] = some [(true, [.d (.int .i64 a0), .row 3 1 a1])] := by
  obtain ⟨k, rfl⟩ : ∃ j, k = j + 1 := ⟨k - 1, by omega⟩
  rw [F72.run]
  rw [c10 (k := k) (by omega)  ha1 s1]
  simp only [List.getElem?_cons_zero, List.getElem?_cons_succ, Option.bind_some, asI_s, asB_s, asS_s, asL_s, bindI_s, bindB_s, bindS_s, bindL_s, bindR_s, resI_s, resB_s, resS_s, resO_s, bne_self_eq_false, beq_self_eq_true, Bool.not_true]
/-- laws.eqFact -/
theorem c81 {k : Nat} (hk : 2000002 ≤ k) {a0 : Int} {a1 : Ovi.Rows} (ha1 : Fit (.list [.int .i64]) (.list 1 a1)) (s1 : szD (.list 1 a1) ≤ 1048576) : C k 81 [.agg [.d (.int .i64 a0), .d (.list 1 a1)], .agg [.d (.int .i64 a0), .d (.list 1 a1)]] = some [(false, [.d (.bool true)])] := by
  obtain ⟨k, rfl⟩ : ∃ j, k = j + 1 := ⟨k - 1, by omega⟩
  rw [F81.run]
  rw [c13 (k := k) (by omega)  ha1 s1]
  simp only [List.getElem?_cons_zero, List.getElem?_cons_succ, Option.bind_some, asI_s, asB_s, asS_s, asL_s, bindI_s, bindB_s, bindS_s, bindL_s, bindR_s, resI_s, resB_s, resS_s, resO_s, bne_self_eq_false, beq_self_eq_true, Bool.not_true]
  rfl
/-- laws.szFactS -/
theorem l30 {k : Nat} (hk : 2000002 ≤ k) {a : Ovi.Rows} (ha : Fit (.list [.int .i64, .list [.int .i64]]) (.list 2 a)) : ∀ (m i n : Nat) (left : Int), 0 ≤ left → left ≤ 1048576 → i + m = a.length → m < n → F30.L5 k (C k) n a left (i : Int) = some [(false, [.d (.int .i64 (szT left (szR (a.drop i))))])] := by
  have hlen := ha.len
  intro m; induction m with
  | zero =>
    intro i n left h0 h1 hm hn
    obtain ⟨n, rfl⟩ : ∃ j, n = j + 1 := ⟨n - 1, by omega⟩
    rw [F30.L5.succ, ite'_f (lt_f (by omega)), List.drop_eq_nil_of_le (by omega)]
    simp only [szR, szT_pos (left := left) (s := 0) (by omega)]
    simp
  | succ m ih =>
    intro i n left h0 h1 hm hn
    obtain ⟨n, rfl⟩ : ∃ j, n = j + 1 := ⟨n - 1, by omega⟩
    obtain ⟨row, hr, hfr, hdr⟩ := ha.row (i := i) (by omega)
    obtain ⟨d0, rr0, rfl, hd0, hfr0⟩ := Fits.cons hfr
    obtain ⟨x0, rfl, wx0⟩ := hd0.int
    obtain ⟨d1, rr1, rfl, hd1, hfr1⟩ := Fits.cons hfr0
    obtain ⟨x1, rfl, hx1⟩ := hd1.list (n := 1) rfl
    obtain rfl := Fits.nil hfr1
    have eR : szR (a.drop i) = szC [.int .i64 x0, .list 1 x1] + szR (a.drop (i + 1)) := by rw [hdr]; rfl
    rw [F30.L5.succ, ite'_t (lt_t (by omega)), ite'_t (inR_t (by omega)), eR]
    simp only [Int.toNat_natCast, cellI_at hr, cellB_at hr, cellS_at hr, cellL_at hr]
    simp only [List.getElem?_cons_zero, List.getElem?_cons_succ, Option.bind_some, asI_s, asB_s, asS_s, asL_s, bindI_s, bindB_s, bindS_s, bindL_s, bindR_s, resI_s, resB_s, resS_s, resO_s, bne_self_eq_false, beq_self_eq_true, Bool.not_true]
    have cc := c65 (k := k) (by omega) (a0 := x0) hx1 h0 h1
    rw [cc]
    simp only [List.getElem?_cons_zero, List.getElem?_cons_succ, Option.bind_some, asI_s, asB_s, asS_s, asL_s, bindI_s, bindB_s, bindS_s, bindL_s, bindR_s, resI_s, resB_s, resS_s, resO_s, bne_self_eq_false, beq_self_eq_true, Bool.not_true]
    rcases szT_cases left (szC [.int .i64 x0, .list 1 x1]) with ⟨q, e⟩ | ⟨q, e⟩ <;> rw [e]
    · rw [ite'_f (neg_f (by omega)), wrap_succ (m := a.length) (by omega) (by omega) hlen]
      have := ih (i + 1) n (left - ((szC [.int .i64 x0, .list 1 x1] : Nat) : Int)) (by omega) (by omega) (by omega) (by omega)
      rw [show ((i : Int) + 1) = ((i + 1 : Nat) : Int) by omega, this]
      rcases szT_cases (left - ((szC [.int .i64 x0, .list 1 x1] : Nat) : Int)) (szR (a.drop (i + 1))) with ⟨q2, e2⟩ | ⟨q2, e2⟩ <;> rw [e2]
      · rw [szT_pos (by omega)] <;> (congr 6 <;> omega)
      · rw [szT_neg (by omega)]
    · rw [ite'_t neg_t, szT_neg (by omega)]
theorem c30 {k : Nat} (hk : 2000003 ≤ k) {a : Ovi.Rows} (ha : Fit (.list [.int .i64, .list [.int .i64]]) (.list 2 a)) {left : Int} (h0 : 0 ≤ left) (h1 : left ≤ 1048576) : C k 30 [.d (.list 2 a), .d (.int .i64 left)] = some [(false, [.d (.int .i64 (szT left (szD (.list 2 a))))])] := by
  obtain ⟨k, rfl⟩ : ∃ j, k = j + 1 := ⟨k - 1, by omega⟩
  have hlen := ha.len; unfold maxLen at hlen
  rw [F30.run, wrap_id (by omega) (by omega)]
  have eD : szD (.list 2 a) = a.length + szR a := by simp only [szD]
  rw [eD]
  rcases szT_cases left a.length with ⟨q, e⟩ | ⟨q, e⟩
  · rw [ite'_f (neg_f (by omega))]
    have := l30 (k := k) (by omega) ha a.length 0 k (left - (a.length : Int)) (by omega) (by omega) (by omega) (by omega)
    rw [List.drop_zero] at this
    rw [show ((0 : Int)) = ((0 : Nat) : Int) by rfl, this]
    rcases szT_cases (left - (a.length : Int)) (szR a) with ⟨q2, e2⟩ | ⟨q2, e2⟩ <;> rw [e2]
    · rw [szT_pos (by omega)] <;> (congr 6 <;> omega)
    · rw [szT_neg (by omega)]
  · rw [ite'_t (by simp only [decide_eq_true_eq]; omega), szT_neg (by omega)]
/-- laws.toFactS -/
theorem l36 {k : Nat} (hk : 2000002 ≤ k) {a : Ovi.Rows} (ha : Fit (.list [.int .i64, .list [.int .i64]]) (.list 2 a)) (hs : szR a ≤ 1048576) : ∀ (m i n : Nat) (v : Ovi.Rows), Filled a v i 2 → i + m = a.length → m < n → F36.L3 k (C k) n a (i : Int) v = some [(false, [.row 59 2 a])] := by
  have hlen := ha.len
  intro m; induction m with
  | zero =>
    intro i n v hv hm hn
    obtain ⟨n, rfl⟩ : ∃ j, n = j + 1 := ⟨n - 1, by omega⟩
    obtain rfl : i = a.length := by omega
    rw [F36.L3.succ, ite'_f (lt_f (by omega)), hv.done]
  | succ m ih =>
    intro i n v hv hm hn
    obtain ⟨n, rfl⟩ : ∃ j, n = j + 1 := ⟨n - 1, by omega⟩
    obtain ⟨row, hr, hfr, hdr⟩ := ha.row (i := i) (by omega)
    obtain ⟨d0, rr0, rfl, hd0, hfr0⟩ := Fits.cons hfr
    obtain ⟨x0, rfl, wx0⟩ := hd0.int
    obtain ⟨d1, rr1, rfl, hd1, hfr1⟩ := Fits.cons hfr0
    obtain ⟨x1, rfl, hx1⟩ := hd1.list (n := 1) rfl
    obtain rfl := Fits.nil hfr1
    have hst := hv.step hr rfl
    have hvl := hv.1
    have hszr := szR_at hr
    rw [F36.L3.succ, ite'_t (lt_t (by omega)), ite'_t (inR_t (by omega))]
    simp only [Int.toNat_natCast, cellI_at hr, cellB_at hr, cellS_at hr, cellL_at hr]
    simp only [List.getElem?_cons_zero, List.getElem?_cons_succ, Option.bind_some, asI_s, asB_s, asS_s, asL_s, bindI_s, bindB_s, bindS_s, bindL_s, bindR_s, resI_s, resB_s, resS_s, resO_s, bne_self_eq_false, beq_self_eq_true, Bool.not_true]
    rw [c72 (k := k) (by omega) (a0 := x0) hx1 (by simp only [szC, szD] at hszr ⊢; omega)]
    simp only [List.getElem?_cons_zero, List.getElem?_cons_succ, Option.bind_some, asI_s, asB_s, asS_s, asL_s, bindI_s, bindB_s, bindS_s, bindL_s, bindR_s, resI_s, resB_s, resS_s, resO_s, bne_self_eq_false, beq_self_eq_true, Bool.not_true]
    simp only [F72x0, F72x1]
    simp only [List.getElem?_cons_zero, List.getElem?_cons_succ, Option.bind_some, asI_s, asB_s, asS_s, asL_s, bindI_s, bindB_s, bindS_s, bindL_s, bindR_s, resI_s, resB_s, resS_s, resO_s, bne_self_eq_false, beq_self_eq_true, Bool.not_true]
    rw [ite'_t (inR_t (by omega)), wrap_succ (m := a.length) (by omega) (by omega) hlen]
    rw [show ((i : Int) + 1) = ((i + 1 : Nat) : Int) by omega]
    exact ih (i + 1) n _ hst (by omega) (by omega)
theorem c36 {k : Nat} (hk : 2000003 ≤ k) {a : Ovi.Rows} (ha : Fit (.list [.int .i64, .list [.int .i64]]) (.list 2 a)) (hs : szD (.list 2 a) ≤ 1048576) : C k 36 [.d (.list 2 a)] = some [(false, [.row 59 2 a])] := by
  obtain ⟨k, rfl⟩ : ∃ j, k = j + 1 := ⟨k - 1, by omega⟩
  simp only [szD] at hs
  rw [F36.run, ite'_t (beq_t _), ite'_t (inM_t (by omega))]
  exact l36 (k := k) (by omega) ha (by omega) a.length 0 k _ (Filled.start a _) (by omega) (by omega)
/-- laws.eqFactS -/
theorem l43 {k : Nat} (hk : 2000002 ≤ k) {a : Ovi.Rows} (ha : Fit (.list [.int .i64, .list [.int .i64]]) (.list 2 a)) (hs : szR a ≤ 1048576) : ∀ (m i n : Nat), i + m = a.length → m < n → F43.L4 k (C k) n a a (i : Int) = some [(false, [.d (.bool true)])] := by
  have hlen := ha.len
  intro m; induction m with
  | zero =>
    intro i n hm hn
    obtain ⟨n, rfl⟩ : ∃ j, n = j + 1 := ⟨n - 1, by omega⟩
    rw [F43.L4.succ, ite'_f (lt_f (by omega))]
  | succ m ih =>
    intro i n hm hn
    obtain ⟨n, rfl⟩ : ∃ j, n = j + 1 := ⟨n - 1, by omega⟩
    obtain ⟨row, hr, hfr, hdr⟩ := ha.row (i := i) (by omega)
    obtain ⟨d0, rr0, rfl, hd0, hfr0⟩ := Fits.cons hfr
    obtain ⟨x0, rfl, wx0⟩ := hd0.int
    obtain ⟨d1, rr1, rfl, hd1, hfr1⟩ := Fits.cons hfr0
    obtain ⟨x1, rfl, hx1⟩ := hd1.list (n := 1) rfl
    obtain rfl := Fits.nil hfr1
    have hszr := szR_at hr
    rw [F43.L4.succ, ite'_t (lt_t (by omega)), ite'_t (inR_t (by omega))]
    simp only [Int.toNat_natCast, cellI_at hr, cellB_at hr, cellS_at hr, cellL_at hr]
    simp only [List.getElem?_cons_zero, List.getElem?_cons_succ, Option.bind_some, asI_s, asB_s, asS_s, asL_s, bindI_s, bindB_s, bindS_s, bindL_s, bindR_s, resI_s, resB_s, resS_s, resO_s, bne_self_eq_false, beq_self_eq_true, Bool.not_true]
    rw [ite'_t (inR_t (by omega))]
    rw [c81 (k := k) (by omega) (a0 := x0) hx1 (by simp only [szC, szD] at hszr ⊢; omega)]
    simp only [List.getElem?_cons_zero, List.getElem?_cons_succ, Option.bind_some, asI_s, asB_s, asS_s, asL_s, bindI_s, bindB_s, bindS_s, bindL_s, bindR_s, resI_s, resB_s, resS_s, resO_s, bne_self_eq_false, beq_self_eq_true, Bool.not_true]
    rw [ite'_f rfl, wrap_succ (m := a.length) (by omega) (by omega) hlen]
    rw [show ((i : Int) + 1) = ((i + 1 : Nat) : Int) by omega]
    exact ih (i + 1) n (by omega) (by omega)
theorem c43 {k : Nat} (hk : 2000003 ≤ k) {a : Ovi.Rows} (ha : Fit (.list [.int .i64, .list [.int .i64]]) (.list 2 a)) (hs : szD (.list 2 a) ≤ 1048576) : C k 43 [.d (.list 2 a), .d (.list 2 a)] = some [(false, [.d (.bool true)])] := by
  obtain ⟨k, rfl⟩ : ∃ j, k = j + 1 := ⟨k - 1, by omega⟩
  simp only [szD] at hs
  rw [F43.run, ite'_f (bne_f _)]
  exact l43 (k := k) (by omega) ha (by omega) a.length 0 k (by omega) (by omega)
/-- laws.szInstance -/
theorem c7 {k : Nat} (hk : 2000004 ≤ k) {a0 : Ovi.Rows} (ha0 : Fit (.list [.str, .int .i64, .bool]) (.list 3 a0)) {a1 : Ovi.Rows} (ha1 : Fit (.list [.int .i64, .list [.int .i64]]) (.list 2 a1)) {left : Int} (h0 : 0 ≤ left) (h1 : left ≤ 1048576) : C k 7 [.agg [.d (.list 3 a0), .d (.list 2 a1)], .d (.int .i64 left)] = some [(false, [.d (.int .i64 (szT left (szC [.list 3 a0, .list 2 a1])))])] := by
  obtain ⟨k, rfl⟩ : ∃ j, k = j + 1 := ⟨k - 1, by omega⟩
  have eT : szC [.list 3 a0, .list 2 a1] = (szD (.list 3 a0)) + (szD (.list 2 a1)) := by simp only [szC, szD] <;> omega
  rw [eT, F7.run]
  rw [c29 (k := k) (by omega)  ha0 (left := left) (by omega) (by omega)]
  simp only [List.getElem?_cons_zero, List.getElem?_cons_succ, Option.bind_some, asI_s, asB_s, asS_s, asL_s, bindI_s, bindB_s, bindS_s, bindL_s, bindR_s, resI_s, resB_s, resS_s, resO_s, bne_self_eq_false, beq_self_eq_true, Bool.not_true]
  rcases szT_cases (left) (szD (.list 3 a0)) with ⟨q0, e0⟩ | ⟨q0, e0⟩ <;> rw [e0]
  rotate_left
  · rw [ite'_t (by simp only [decide_eq_true_eq]; omega)] <;> first | rfl | rw [szT_neg (by omega)]
  rw [ite'_f (neg_f (by omega))]
  rw [c30 (k := k) (by omega)  ha1 (left := left - ((szD (.list 3 a0) : Nat) : Int)) (by omega) (by omega)]
  simp only [List.getElem?_cons_zero, List.getElem?_cons_succ, Option.bind_some, asI_s, asB_s, asS_s, asL_s, bindI_s, bindB_s, bindS_s, bindL_s, bindR_s, resI_s, resB_s, resS_s, resO_s, bne_self_eq_false, beq_self_eq_true, Bool.not_true]
  rcases szT_cases (left - ((szD (.list 3 a0) : Nat) : Int)) (szD (.list 2 a1)) with ⟨q1, e1⟩ | ⟨q1, e1⟩ <;> rw [e1]
  rotate_left
  · rw [ite'_t (by simp only [decide_eq_true_eq]; omega)] <;> first | rfl | rw [szT_neg (by omega)]
  rw [ite'_f (neg_f (by omega))] <;> first | rfl | (rw [szT_pos (by omega)] <;> (congr 6 <;> omega))
/-- laws.toInstance -/
theorem F9x0 {a0 : Ovi.Rows} {a1 : Ovi.Rows} : resO 87 3 1 true 2 [(true, [.row 87 3 a0, .row 59 2 a1])] 0 0 = some a0 := rfl
theorem F9x1 {a0 : Ovi.Rows} {a1 : Ovi.Rows} : resO 59 2 1 true 2 [(true, [.row 87 3 a0, .row 59 2 a1])] 0 1 = some a1 := rfl
theorem c9 {k : Nat} (hk : 2000004 ≤ k) {a0 : Ovi.Rows} (ha0 : Fit (.list [.str, .int .i64, .bool]) (.list 3 a0)) {a1 : Ovi.Rows} (ha1 : Fit (.list [.int .i64, .list [.int .i64]]) (.list 2 a1)) (s0 : szD (.list 3 a0) ≤ 1048576) (s1 : szD (.list 2 a1) ≤ 1048576) : C k 9 [.agg [.d (.list 3 a0), .d (.list 2 a1)]] = some [(true, [.row 87 3 a0, .row 59 2 a1])] := by
  obtain ⟨k, rfl⟩ : ∃ j, k = j + 1 := ⟨k - 1, by omega⟩
  rw [F9.run]
  rw [c35 (k := k) (by omega)  ha0 s0]
  simp only [List.getElem?_cons_zero, List.getElem?_cons_succ, Option.bind_some, asI_s, asB_s, asS_s, asL_s, bindI_s, bindB_s, bindS_s, bindL_s, bindR_s, resI_s, resB_s, resS_s, resO_s, bne_self_eq_false, beq_self_eq_true, Bool.not_true]
  rw [c36 (k := k) (by omega)  ha1 s1]
  simp only [List.getElem?_cons_zero, List.getElem?_cons_succ, Option.bind_some, asI_s, asB_s, asS_s, asL_s, bindI_s, bindB_s, bindS_s, bindL_s, bindR_s, resI_s, resB_s, resS_s, resO_s, bne_self_eq_false, beq_self_eq_true, Bool.not_true]
/-- laws.eqInstance -/
theorem c12 {k : Nat} (hk : 2000004 ≤ k) {a0 : Ovi.Rows} (ha0 : Fit (.list [.str, .int .i64, .bool]) (.list 3 a0)) {a1 : Ovi.Rows} (ha1 : Fit (.list [.int .i64, .list [.int .i64]]) (.list 2 a1)) (s0 : szD (.list 3 a0) ≤ 1048576) (s1 : szD (.list 2 a1) ≤ 1048576) : C k 12 [.agg [.d (.list 3 a0), .d (.list 2 a1)], .agg [.d (.list 3 a0), .d (.list 2 a1)]] = some [(false, [.d (.bool true)])] := by
  obtain ⟨k, rfl⟩ : ∃ j, k = j + 1 := ⟨k - 1, by omega⟩
  rw [F12.run]
  rw [c42 (k := k) (by omega)  ha0 s0]
  rw [c43 (k := k) (by omega)  ha1 s1]
  simp only [List.getElem?_cons_zero, List.getElem?_cons_succ, Option.bind_some, asI_s, asB_s, asS_s, asL_s, bindI_s, bindB_s, bindS_s, bindL_s, bindR_s, resI_s, resB_s, resS_s, resO_s, bne_self_eq_false, beq_self_eq_true, Bool.not_true]
  rfl
end Go.Proofs.Ytjfdcddjheandaa.Q

/-! NHa -/
namespace Go.Proofs.Ytjfdcddjheandaa.Q
open Go Ovi

def bo (b : Bool) : Option Res := some [(false, [.d (.bool b)])]
theorem bo_eq {b c : Bool} (h : b = c) : bo b = bo c := by rw [h]
/-- spec.l1In -/
theorem c93 (k : Nat) (a l h : Int) : C (k + 1) 93 [.d (.int .i64 a), .d (.int .i64 l), .d (.int .i64 h)] = bo (decide (l ≤ a ∧ a ≤ h)) := by
  rw [F93.run]
  by_cases h1 : l ≤ a
  · rw [ite'_t (by simpa using h1)]; exact bo_eq (by simp [h1])
  · rw [ite'_f (by simpa using h1)]; exact bo_eq (by simp [h1])
/-- impl.within -/
theorem c98 (k : Nat) (a l h : Int) : C (k + 1) 98 [.d (.int .i64 a), .d (.int .i64 l), .d (.int .i64 h)] = bo (decide (l ≤ a ∧ a ≤ h)) := by
  rw [F98.run]
  by_cases h1 : l ≤ a
  · rw [ite'_t (by simpa using h1)]; exact bo_eq (by simp [h1])
  · rw [ite'_f (by simpa using h1)]; exact bo_eq (by simp [h1])
theorem bB (b : Bool) (k : Bool → Option Res) : (bindR (bo b) fun r => bindB (resB 1 false 1 r 0 0) k) = k b := rfl
theorem iB {x y : Option Res} (b : Bool) : ite' b x y = cond b x y := rfl
variable {k : Nat}
/-- slices.Contains on integers -/
theorem c58 (zs : List Int) (v : Int) (hk : zs.length < k) (hz : zs.length ≤ maxLen) : C (k + 2) 58 [.d (.list 1 (I1 zs)), .d (.int .i64 v)] = bo (decide (v ∈ zs)) := by
  rw [F58.run, F87.run, I1_len]
  have := loop_find (xs := zs) (L := fun n i => F87.L2 k (C k) n (I1 zs) v (zs.length : Int) i) (stop := fun _ x => v == x) (hit := fun i => some [(false, [.d (.int .i64 (i : Int))])]) (fin := some [(false, [.d (.int .i64 (-1))])])
    (fun n i x hx => by
      have hi := (List.getElem?_eq_some_iff.1 hx).1
      rw [F87.L2.succ, I1_len, ite'_t (lt_t hi), ite'_t (inR_t hi)]
      simp only [Int.toNat_natCast, cellI_at (I1_get' hx), List.getElem?_cons_zero, Option.bind_some, asI_s, bindI_s]
      rw [next_i hi hz]; rfl)
    (fun n => by rw [F87.L2.succ, ite'_f (lt_f (by omega))]) k hk
  rcases this with ⟨i, x, hx, hst, e⟩ | ⟨hst, e⟩
  · rw [show F87.L2 k (C k) k (I1 zs) v (zs.length : Int) 0 = _ from e]
    simp only [bindR_s, resI_s, bindI_s]
    have : v = x := by simpa using hst
    subst this
    exact bo_eq (by rw [decide_eq_true (List.mem_of_getElem? hx)]; simp)
  · rw [show F87.L2 k (C k) k (I1 zs) v (zs.length : Int) 0 = _ from e]
    simp only [bindR_s, resI_s, bindI_s]
    refine bo_eq ?_
    rw [decide_eq_false (p := v ∈ zs) (fun h => ?_)]
    · rfl
    · obtain ⟨i, hi⟩ := List.mem_iff_getElem?.1 h
      have := hst i v hi
      simp at this
/-- slices.ContainsFunc on integers -/
theorem c56 (zs : List Int) (f : FuncId) (caps : Ovi.Rows) (p : Int → Bool) (hk : zs.length < k) (hz : zs.length ≤ maxLen) (hp : ∀ z ∈ zs, C k f (.d (.int .i64 z) :: caps.map fun c => .cap c 0) = bo (p z)) : C (k + 2) 56 [.d (.list 1 (I1 zs)), .d (.fn f caps)] = bo (zs.any p) := by
  rw [F56.run, F86.run, I1_len]
  have := loop_find (xs := zs) (L := fun n i => F86.L2 k (C k) n (I1 zs) f caps (zs.length : Int) i) (stop := fun _ x => p x) (hit := fun i => some [(false, [.d (.int .i64 (i : Int))])]) (fin := some [(false, [.d (.int .i64 (-1))])])
    (fun n i x hx => by
      have hi := (List.getElem?_eq_some_iff.1 hx).1
      rw [F86.L2.succ, I1_len, ite'_t (lt_t hi), ite'_t (inR_t hi)]
      simp only [Int.toNat_natCast, cellI_at (I1_get' hx), List.getElem?_cons_zero, Option.bind_some, asI_s, bindI_s]
      rw [next_i hi hz]
      have := hp x (List.mem_of_getElem? hx)
      simp only [List.append_eq, List.nil_append] at this ⊢
      rw [this, bB]; rfl)
    (fun n => by rw [F86.L2.succ, ite'_f (lt_f (by omega))]) k hk
  rcases this with ⟨i, x, hx, hst, e⟩ | ⟨hst, e⟩
  · rw [show F86.L2 k (C k) k (I1 zs) f caps (zs.length : Int) 0 = _ from e]
    simp only [bindR_s, resI_s, bindI_s]
    exact bo_eq (by rw [List.any_eq_true.2 ⟨x, List.mem_of_getElem? hx, hst⟩]; simp)
  · rw [show F86.L2 k (C k) k (I1 zs) f caps (zs.length : Int) 0 = _ from e]
    simp only [bindR_s, resI_s, bindI_s]
    refine bo_eq ?_
    rw [List.any_eq_false.2 (fun x hx => ?_)]
    · rfl
    · obtain ⟨i, hi⟩ := List.mem_iff_getElem?.1 hx
      simpa using hst i x hi
/-! ### relations -/
def Rl : Ty := .list [.str, .int .i64, .bool]
/-- both IsValidRelation -/
def relOk (s : List UInt8) (n : Int) : Bool := decide (s.length = 1) && (decide (byteAt s 0 ≥ 97) && (decide (byteAt s 0 ≤ 122) && decide (1 ≤ n ∧ n ≤ 3)))
theorem c97 (s : List UInt8) (n : Int) (b : Bool) : C (k + 2) 97 [.agg [.d (.str s), .d (.int .i64 n), .d (.bool b)]] = bo (relOk s n) := by
  rw [F97.run]
  by_cases h : s.length = 1
  · obtain ⟨h1, h2⟩ := letter s h
    rw [ite'_t (by simp; omega), h1, h2, c98, bB]
    unfold relOk
    rw [decide_eq_true h]
    cases decide (byteAt s 0 ≥ 97) <;> cases decide (byteAt s 0 ≤ 122) <;> rfl
  · rw [ite'_f (by simp; omega)]
    unfold relOk
    rw [decide_eq_false h]
    rfl
theorem c96 (s : List UInt8) (n : Int) (b : Bool) : C (k + 2) 96 [.agg [.d (.str s), .d (.int .i64 n), .d (.bool b)]] = bo (relOk s n) := by
  rw [F96.run]
  by_cases h : s.length = 1
  · rw [ite'_t (by simp; omega), ite'_t (by simp [inR]; omega), ite'_t (b := inR 0 s.length) (by simp [inR]; omega), c93, bB]
    unfold relOk
    rw [decide_eq_true h]
    cases decide (byteAt s 0 ≥ 97) <;> cases decide (byteAt s 0 ≤ 122) <;> rfl
  · rw [ite'_f (by simp; omega)]
    unfold relOk
    rw [decide_eq_false h]
    rfl
/-- both AreValidRelations answer alike -/
theorem rels {a : Ovi.Rows} (ha : Fit Rl (.list 3 a)) : ∃ b, ∀ k, a.length < k → C (k + 3) 73 [.d (.list 3 a)] = bo b ∧ C (k + 3) 68 [.d (.list 3 a)] = bo b := by
  have hlen := ha.len
  have key : ∀ (m i : Nat), i + m = a.length → ∃ b, ∀ k n, m < n → F73.L2 (k + 2) (C (k + 2)) n a a (a.length : Int) (i : Int) = bo b ∧ F68.L2 (k + 2) (C (k + 2)) n a (i : Int) = bo b := by
    intro m
    induction m with
    | zero =>
      intro i hm
      refine ⟨decide ((a.length : Int) ≤ 6), fun k n hn => ?_⟩
      obtain ⟨n, rfl⟩ : ∃ j, n = j + 1 := ⟨n - 1, by omega⟩
      constructor
      · rw [F73.L2.succ, ite'_f (lt_f (by omega))]; rfl
      · rw [F68.L2.succ, ite'_f (lt_f (by omega))]; rfl
    | succ m ih =>
      intro i hm
      have hi : i < a.length := by omega
      obtain ⟨row, hr, hfr, _⟩ := ha.row hi
      obtain ⟨d0, r0, rfl, f0, h1⟩ := Fits.cons hfr
      obtain ⟨d1, r1, rfl, f1, h1⟩ := Fits.cons h1
      obtain ⟨d2, r2, rfl, f2, h1⟩ := Fits.cons h1
      obtain rfl := Fits.nil h1
      obtain ⟨s, rfl, hs⟩ := f0.str
      obtain ⟨x, rfl, _⟩ := f1.int
      obtain ⟨b, rfl⟩ := f2.bool
      obtain ⟨bb, ih⟩ := ih (i + 1) (by omega)
      have step : ∀ k n, F73.L2 (k + 2) (C (k + 2)) (n + 1) a a (a.length : Int) (i : Int) = ite' (!relOk s x) (bo false) (ite' (decide ((i : Int) > 0)) (ite' (inR (IntKind.i64.wrap ((i : Int) - 1)) a.length) (bindS (cellS a (IntKind.i64.wrap ((i : Int) - 1)).toNat 0) fun s13 => ite' (sLess s s13 || s == s13) (bo false) (F73.L2 (k + 2) (C (k + 2)) n a a (a.length : Int) ((i + 1 : Nat) : Int))) none) (F73.L2 (k + 2) (C (k + 2)) n a a (a.length : Int) ((i + 1 : Nat) : Int))) ∧
          F68.L2 (k + 2) (C (k + 2)) (n + 1) a (i : Int) = ite' (!relOk s x) (bo false) (ite' (decide ((i : Int) > 0)) (ite' (inR (IntKind.i64.wrap ((i : Int) - 1)) a.length) (bindS (cellS a (IntKind.i64.wrap ((i : Int) - 1)).toNat 0) fun s11 => ite' (!sLess s11 s) (bo false) (F68.L2 (k + 2) (C (k + 2)) n a ((i + 1 : Nat) : Int))) none) (F68.L2 (k + 2) (C (k + 2)) n a ((i + 1 : Nat) : Int))) := by
        intro k n
        rw [F73.L2.succ, F68.L2.succ, ite'_t (lt_t hi), ite'_t (inR_t hi), ite'_t (lt_t hi), ite'_t (inR_t hi)]
        simp only [Int.toNat_natCast, cellI_at hr, cellS_at hr, cellB_at hr, List.getElem?_cons_zero, List.getElem?_cons_succ, Option.bind_some, asI_s, asS_s, asB_s, bindI_s, bindS_s, bindB_s]
        rw [c97, c96, next_i hi hlen, bB, bB]
        refine ⟨rfl, ?_⟩
        simp only [show ∀ x y : Option Res, ite' (inR (i : Int) a.length) x y = x from fun x y => ite'_t (inR_t hi)]
        rfl
      cases hv : relOk s x with
      | false =>
        refine ⟨false, fun k n hn => ?_⟩
        obtain ⟨n, rfl⟩ : ∃ j, n = j + 1 := ⟨n - 1, by omega⟩
        obtain ⟨e1, e2⟩ := step k n
        rw [e1, e2, hv]
        exact ⟨rfl, rfl⟩
      | true =>
        by_cases h0 : i = 0
        · subst h0
          refine ⟨bb, fun k n hn => ?_⟩
          obtain ⟨n, rfl⟩ : ∃ j, n = j + 1 := ⟨n - 1, by omega⟩
          obtain ⟨e1, e2⟩ := step k n
          rw [e1, e2, hv]
          exact ih k n (by omega)
        · have hw : IntKind.i64.wrap ((i : Int) - 1) = ((i - 1 : Nat) : Int) := by
            unfold maxLen at hlen
            rw [wrap_id (by omega) (by omega)]; omega
          obtain ⟨row', hr', hfr', _⟩ := ha.row (i := i - 1) (by omega)
          obtain ⟨d0', r0', rfl, f0', h1'⟩ := Fits.cons hfr'
          obtain ⟨s', rfl, hs'⟩ := f0'.str
          have hcs : cellS a ((i - 1 : Nat) : Int).toNat 0 = some s' := by rw [Int.toNat_natCast, cellS_at hr']; rfl
          have hgt : decide ((i : Int) > 0) = true := by simp; omega
          have hin : inR ((i - 1 : Nat) : Int) a.length = true := inR_t (by omega)
          cases hl : sLess s' s with
          | true =>
            refine ⟨bb, fun k n hn => ?_⟩
            obtain ⟨n, rfl⟩ : ∃ j, n = j + 1 := ⟨n - 1, by omega⟩
            obtain ⟨e1, e2⟩ := step k n
            rw [e1, e2, hv, hw, hgt, hin, hcs]
            simp only [bindS_s]
            rw [sLess_total, hl]
            exact ih k n (by omega)
          | false =>
            refine ⟨false, fun k n hn => ?_⟩
            obtain ⟨n, rfl⟩ : ∃ j, n = j + 1 := ⟨n - 1, by omega⟩
            obtain ⟨e1, e2⟩ := step k n
            rw [e1, e2, hv, hw, hgt, hin, hcs]
            simp only [bindS_s]
            rw [sLess_total, hl]
            exact ⟨rfl, rfl⟩
  obtain ⟨b, hb⟩ := key a.length 0 (by omega)
  refine ⟨b, fun k hk => ?_⟩
  rw [F73.run, F68.run]
  exact hb k (k + 2) (by omega)
end Go.Proofs.Ytjfdcddjheandaa.Q

/-! NIa -/
namespace Go.Proofs.Ytjfdcddjheandaa.Q
open Go Ovi
variable {k : Nat}
/-- what the atoms hold: z is a variable of theirs -/
def isVar (xs : List Atom) (z : Int) : Prop := 0 ≤ z ∧ ∃ x ∈ xs, z ∈ x.2
def terms (xs : List Atom) : Nat := (xs.map fun x => x.2.length).sum
theorem terms_at {xs : List Atom} {i : Nat} {x : Atom} (h : xs[i]? = some x) : terms (xs.take i) + x.2.length = terms (xs.take (i + 1)) := by
  obtain ⟨hi, e⟩ := List.getElem?_eq_some_iff.1 h
  unfold terms
  rw [List.take_succ_eq_append_getElem hi, e]
  simp
theorem terms_le (xs : List Atom) (i : Nat) : terms (xs.take i) ≤ terms xs := by
  have : terms xs = terms (xs.take i) + terms (xs.drop i) := by
    unfold terms
    rw [← List.sum_append, ← List.map_append, List.take_append_drop]
  omega
theorem isVar_take {xs : List Atom} {i : Nat} {x : Atom} (h : xs[i]? = some x) (z : Int) : isVar (xs.take (i + 1)) z ↔ isVar (xs.take i) z ∨ (0 ≤ z ∧ z ∈ x.2) := by
  obtain ⟨hi, e⟩ := List.getElem?_eq_some_iff.1 h
  unfold isVar
  rw [List.take_succ_eq_append_getElem hi, e]
  simp only [List.mem_append, List.mem_singleton]
  constructor
  · rintro ⟨h0, y, hy | rfl, hz⟩
    · exact .inl ⟨h0, y, hy, hz⟩
    · exact .inr ⟨h0, hz⟩
  · rintro (⟨h0, y, hy, hz⟩ | ⟨h0, hz⟩)
    · exact ⟨h0, y, .inl hy, hz⟩
    · exact ⟨h0, x, .inr rfl, hz⟩
end Go.Proofs.Ytjfdcddjheandaa.Q

/-! NHb -/
namespace Go.Proofs.Ytjfdcddjheandaa.Q
open Go Ovi
variable {k : Nat}
/-! ### values -/
def isN (v : Int) : Bool := decide (-40 ≤ v ∧ v ≤ -1)
def okV (v : Int) : Bool := decide (-40 ≤ v ∧ v ≤ 9)
def nn (v : Int) : Option Res := some [(false, [.d (.int .i64 (if isN v then -1 - v else 0))]), (false, [.d (.bool (isN v))])]
theorem nnB (v : Int) (f : Int → Bool → Option Res) : (bindR (nn v) fun r => bindI (resI .i64 2 false 1 r 0 0) fun n => bindB (resB 2 false 1 r 1 0) fun b => f n b) = f (if isN v then -1 - v else 0) (isN v) := rfl
theorem isN_t {v : Int} (h : isN v = true) : -40 ≤ v ∧ v ≤ -1 := of_decide_eq_true h
theorem isN_f {v : Int} (h : isN v = false) : ¬ (-40 ≤ v ∧ v ≤ -1) := of_decide_eq_false h
theorem wrapN {v : Int} (h : inI v) : IntKind.i64.wrap (-1 - v) = -1 - v := by unfold inI at h; exact wrap_id (by omega) (by omega)
/-- spec.NullNumber -/
theorem c69 {v : Int} (h : inI v) : C (k + 2) 69 [.d (.int .i64 v)] = nn v := by
  rw [F69.run]
  by_cases h0 : v ≥ 0
  · rw [ite'_t (by simpa using h0)]
    have : isN v = false := decide_eq_false (by omega)
    simp [nn, this]
  · rw [ite'_f (by simpa using h0), wrapN h, c93, bB]
    by_cases h1 : isN v = true
    · have := isN_t h1
      rw [decide_eq_true (by omega), ite'_nt]
      simp [nn, h1]
    · have h1 : isN v = false := by simpa using h1
      have := isN_f h1
      rw [decide_eq_false (by omega), ite'_nf]
      simp [nn, h1]
/-- impl.NullNumber -/
theorem c103 {v : Int} (h : inI v) : C (k + 2) 103 [.d (.int .i64 v)] = nn v := by
  rw [F103.run, wrapN h, c98, bB]
  by_cases h1 : isN v = true
  · have := isN_t h1
    rw [decide_eq_true (by omega), ite'_nt]
    simp [nn, h1]
  · have h1 : isN v = false := by simpa using h1
    have := isN_f h1
    rw [decide_eq_false (by omega), ite'_nf]
    simp [nn, h1]
/-- spec.IsValidValue -/
theorem c94 {v : Int} (h : inI v) : C (k + 3) 94 [.d (.int .i64 v)] = bo (okV v) := by
  rw [F94.run, c69 h, nnB]
  by_cases h1 : isN v = true
  · have := isN_t h1
    rw [ite'_t h1]
    exact bo_eq (b := true) (by rw [okV, decide_eq_true (by omega)])
  · have h1 : isN v = false := by simpa using h1
    have := isN_f h1
    rw [ite'_f h1, c93, bB]
    refine bo_eq ?_
    unfold okV
    rw [Bool.eq_iff_iff]
    simp only [decide_eq_true_eq]
    omega
/-- impl.IsValidValue -/
theorem c100 (v : Int) : C (k + 2) 100 [.d (.int .i64 v)] = bo (okV v) := by
  rw [F100.run, c98, bB]; rfl
/-- the numbers of the nulls among values -/
def nulls (zs : List Int) : List Int := Lib.compact (sortInts ((zs.filter isN).map fun v => -1 - v))
theorem nulls_ss (zs : List Int) : SS (nulls zs) := ss_compact _
theorem mem_nulls (zs : List Int) (n : Int) : n ∈ nulls zs ↔ ∃ v ∈ zs, isN v = true ∧ n = -1 - v := by
  unfold nulls
  rw [mem_compact, mem_sortInts]
  simp only [List.mem_map, List.mem_filter]
  constructor
  · rintro ⟨v, ⟨h1, h2⟩, rfl⟩; exact ⟨v, h1, h2, rfl⟩
  · rintro ⟨v, h1, h2, rfl⟩; exact ⟨v, ⟨h1, h2⟩, rfl⟩
theorem nulls_len (zs : List Int) : (nulls zs).length ≤ zs.length := by
  unfold nulls
  have h1 := compact_len (sortInts ((zs.filter isN).map fun v => -1 - v))
  have h2 : (sortInts ((zs.filter isN).map fun v => -1 - v)).length = (zs.filter isN).length := by simp [sortInts]
  have h3 := List.length_filter_le isN zs
  omega
/-- impl.nullsOf -/
theorem c85 (zs : List Int) (hI : ∀ z ∈ zs, inI z) (hk : zs.length < k) (hz : zs.length ≤ 1048576) : C (k + 3) 85 [.d (.list 1 (I1 zs))] = some [(false, [.row 3 1 (I1 (nulls zs))])] := by
  rw [F85.run, I1_len]
  have hmax : (1048576 : Nat) ≤ maxLen := by decide
  have main : ∀ (m i n : Nat), i + m = zs.length → m < n → F85.L3 (k + 2) (C (k + 2)) n (I1 zs) (zs.length : Int) (i : Int) (I1 (((zs.take i).filter isN).map fun v => -1 - v)) = some [(false, [.row 3 1 (I1 (nulls zs))])] := by
    intro m
    induction m with
    | zero =>
      intro i n hm hn
      obtain ⟨n, rfl⟩ : ∃ j, n = j + 1 := ⟨n - 1, by omega⟩
      obtain rfl : i = zs.length := by omega
      rw [List.take_length]
      have hf := List.length_filter_le isN zs
      generalize hacc : (zs.filter isN).map (fun v => -1 - v) = acc
      have hal : acc.length ≤ zs.length := by rw [← hacc]; simpa using hf
      have e1 : C (k + 2) 59 [.var 0 0, .d (.int .i64 3), .d (.list 1 (I1 acc))] = some [(false, [.row 3 1 (I1 (sortInts acc))])] := by
        show sortP _ = _
        unfold sortP rawArg
        simp only [ints_I1]
        rw [show Nat.ble acc.length 1099511627776 = true from Nat.ble_eq_true_of_le (by omega)]
        rfl
      have hsl : (sortInts acc).length = acc.length := by simp [sortInts]
      have e2 : C (k + 2) 60 [.var 0 0, .d (.int .i64 3), .d (.list 1 (I1 (sortInts acc)))] = some [(false, [.row 3 1 (I1 (Lib.compact (sortInts acc)))]), (true, [])] := by
        show compactP _ = _
        unfold compactP rawArg
        simp only [ints_I1]
        rw [show Nat.ble (sortInts acc).length 1099511627776 = true from Nat.ble_eq_true_of_le (by omega)]
        rfl
      rw [F85.L3.succ, ite'_f (lt_f (by omega)), e1]
      simp only [bindR_s, resO_s, bindL_s]
      rw [e2]
      unfold nulls
      rw [hacc]
      rfl
    | succ m ih =>
      intro i n hm hn
      obtain ⟨n, rfl⟩ : ∃ j, n = j + 1 := ⟨n - 1, by omega⟩
      have hi : i < zs.length := by omega
      have hx := List.getElem?_eq_getElem hi
      have hft := List.length_filter_le isN (zs.take i)
      rw [F85.L3.succ, I1_len, ite'_t (lt_t hi), ite'_t (inR_t hi)]
      simp only [Int.toNat_natCast, cellI_at (I1_get' hx), List.getElem?_cons_zero, Option.bind_some, asI_s, bindI_s]
      rw [c103 (hI _ (List.getElem_mem hi)), nnB, next_i hi (m := zs.length) (by omega)]
      have hstep : (zs.take (i + 1)).filter isN = (zs.take i).filter isN ++ (if isN zs[i] then [zs[i]] else []) := by
        rw [List.take_succ_eq_append_getElem hi, List.filter_append]
        cases h : isN zs[i] <;> simp [h]
      have := ih (i + 1) n (by omega) (by omega)
      rw [hstep] at this
      cases h : isN zs[i] with
      | true =>
        rw [ite'_t rfl, ite'_t (fits_t (by simp [I1_len] at hft ⊢; omega))]
        rw [h] at this
        simp only [if_true, List.map_append, List.map_cons, List.map_nil] at this ⊢
        rw [← this]
        simp [I1]
      | false =>
        rw [ite'_f rfl]
        rw [h] at this
        simpa using this
  exact main zs.length 0 (k + 2) (by omega) (by omega)
/-- spec.l4Put keeps the order -/
theorem c70s (zs : List Int) (v : Int) (hS : SS zs) (hk : zs.length < k) (hz : zs.length ≤ 1048576) : ∃ r ws, C (k + 1) 70 [.d (.list 1 (I1 zs)), .d (.int .i64 v)] = some r ∧ resL 1 1 false 1 r 0 0 = some (I1 ws) ∧ (∀ z, z ∈ ws ↔ z ∈ zs ∨ z = v) ∧ ws.length ≤ zs.length + 1 ∧ SS ws := by
  rw [F70.run]
  have hmax : (1048576 : Nat) ≤ maxLen := by decide
  have ins : ∀ i : Nat, i ≤ zs.length → (∀ (j : Nat) y, j < i → zs[j]? = some y → y < v) → (∀ y, zs[i]? = some y → v < y) → ∃ r ws, (ite' (inS (i : Int) ((I1 zs).length : Int) (I1 zs).length) (ite' (fits (([[D.int .i64 v]] : Ovi.Rows).length + ((I1 zs).drop (i : Int).toNat).length)) (ite' (inS (0 : Int) (i : Int) (I1 zs).length) (ite' (fits ((I1 zs).take (i : Int).toNat).length) (ite' (fits (((I1 zs).take (i : Int).toNat).length + List.length ([[D.int .i64 v]] ++ (I1 zs).drop (i : Int).toNat))) (some ([(false, [RL.row 3 1 ((I1 zs).take (i : Int).toNat ++ ([[D.int .i64 v]] ++ (I1 zs).drop (i : Int).toNat))])] : Res)) none) none) none) none) none) = some r ∧ resL 1 1 false 1 r 0 0 = some (I1 ws) ∧ (∀ z, z ∈ ws ↔ z ∈ zs ∨ z = v) ∧ ws.length ≤ zs.length + 1 ∧ SS ws := by
    intro i hi hlt hgt
    rw [I1_len, ite'_t (by simp [inS]; omega), ite'_t (fits_t (by simp [I1_len]; omega)), ite'_t (by simp [inS]; omega), ite'_t (fits_t (by simp [I1_len]; omega)), ite'_t (fits_t (by simp [I1_len]; omega))]
    refine ⟨_, zs.take i ++ v :: zs.drop i, rfl, ?_, fun z => ?_, by simp; omega, ?_⟩
    · rw [resL_s]
      simp [I1]
    · have : z ∈ zs ↔ z ∈ zs.take i ∨ z ∈ zs.drop i := by rw [← List.mem_append, List.take_append_drop]
      rw [this, List.mem_append, List.mem_cons]
      constructor
      · rintro (h | h | h)
        · exact .inl (.inl h)
        · exact .inr h
        · exact .inl (.inr h)
      · rintro ((h | h) | h)
        · exact .inl h
        · exact .inr (.inr h)
        · exact .inr (.inl h)
    · have hd : ∀ y ∈ zs.drop i, v < y := by
        intro y hy
        obtain ⟨j, hj⟩ := List.mem_iff_getElem?.1 hy
        rw [List.getElem?_drop] at hj
        have hil : i < zs.length := by have := (List.getElem?_eq_some_iff.1 hj).1; omega
        have h0 := hgt zs[i] (List.getElem?_eq_getElem hil)
        rcases Nat.eq_zero_or_pos j with rfl | hjp
        · rw [Nat.add_zero, List.getElem?_eq_getElem hil] at hj; cases hj; exact h0
        · obtain ⟨hjl, e⟩ := List.getElem?_eq_some_iff.1 hj
          have := List.pairwise_iff_getElem.1 hS i (i + j) hil hjl (by omega)
          omega
      have ht : ∀ y ∈ zs.take i, y < v := by
        intro y hy
        obtain ⟨j, hj⟩ := List.mem_iff_getElem?.1 hy
        obtain ⟨hjl, e⟩ := List.getElem?_eq_some_iff.1 hj
        simp only [List.length_take] at hjl
        rw [List.getElem?_take_of_lt (by omega)] at hj
        exact hlt j y (by omega) hj
      refine List.pairwise_append.2 ⟨hS.sublist (List.take_sublist _ _), List.pairwise_cons.2 ⟨hd, hS.sublist (List.drop_sublist _ _)⟩, fun x hx y hy => ?_⟩
      have := ht x hx
      rcases List.mem_cons.1 hy with rfl | hy
      · exact this
      · have := hd y hy; omega
  have main : ∀ (m i n : Nat), i + m = zs.length → m < n → (∀ (j : Nat) y, j < i → zs[j]? = some y → y < v) → ∃ r ws, F70.L2 k (C k) n (I1 zs) v (i : Int) = some r ∧ resL 1 1 false 1 r 0 0 = some (I1 ws) ∧ (∀ z, z ∈ ws ↔ z ∈ zs ∨ z = v) ∧ ws.length ≤ zs.length + 1 ∧ SS ws := by
    intro m
    induction m with
    | zero =>
      intro i n hm hn hlt
      obtain ⟨n, rfl⟩ : ∃ j, n = j + 1 := ⟨n - 1, by omega⟩
      obtain ⟨r, ws, h1, h2⟩ := ins i (by omega) hlt (fun y hy => by have := (List.getElem?_eq_some_iff.1 hy).1; omega)
      refine ⟨r, ws, ?_, h2⟩
      rw [F70.L2.succ]
      rw [ite'_f (b := decide ((i : Int) < ((I1 zs).length : Int))) (by rw [I1_len]; exact lt_f (by omega))]
      rw [ite'_f (b := decide ((i : Int) < ((I1 zs).length : Int))) (by rw [I1_len]; exact lt_f (by omega))]
      exact h1
    | succ m ih =>
      intro i n hm hn hlt0
      obtain ⟨n, rfl⟩ : ∃ j, n = j + 1 := ⟨n - 1, by omega⟩
      have hi : i < zs.length := by omega
      have hx := List.getElem?_eq_getElem hi
      rw [F70.L2.succ]
      rw [ite'_t (b := decide ((i : Int) < ((I1 zs).length : Int))) (by rw [I1_len]; exact lt_t hi)]
      rw [ite'_t (b := inR (i : Int) (I1 zs).length) (by rw [I1_len]; exact inR_t hi)]
      rw [show cellI .i64 (I1 zs) (i : Int).toNat 0 = some zs[i] by rw [Int.toNat_natCast, cellI_at (I1_get' hx)]; rfl]
      simp only [bindI_s]
      by_cases hlt : zs[i] < v
      · rw [ite'_t (by simpa using hlt), next_i hi (m := zs.length) (by omega)]
        refine ih (i + 1) n (by omega) (by omega) (fun j y hj hy => ?_)
        by_cases hji : j = i
        · subst hji; rw [hx] at hy; cases hy; exact hlt
        · exact hlt0 j y (by omega) hy
      · rw [ite'_f (b := decide (zs[i] < v)) (by simpa using hlt)]
        rw [ite'_t (b := decide ((i : Int) < ((I1 zs).length : Int))) (by rw [I1_len]; exact lt_t hi)]
        rw [ite'_t (b := inR (i : Int) (I1 zs).length) (by rw [I1_len]; exact inR_t hi)]
        by_cases heq : zs[i] = v
        · rw [ite'_t (b := zs[i] == v) (by simpa using heq)]
          refine ⟨_, zs, rfl, resL_d _ _, fun z => ⟨.inl, ?_⟩, by omega, hS⟩
          rintro (h | h)
          · exact h
          · rw [h, ← heq]; exact List.getElem_mem hi
        · rw [ite'_f (b := zs[i] == v) (by simpa using heq)]
          obtain ⟨r, ws, h1, h2⟩ := ins i (by omega) hlt0 (fun y hy => by rw [hx] at hy; cases hy; omega)
          exact ⟨r, ws, h1, h2⟩
  have := main zs.length 0 k (by omega) (by omega) (fun j y hj => by omega)
  exact this
/-- spec.NullsOfFact -/
theorem c32 (r : Int) (zs : List Int) (hI : ∀ z ∈ zs, inI z) (hk : zs.length < k) (hz : zs.length ≤ 1048576) : C (k + 3) 32 [.agg [.d (.int .i64 r), .d (.list 1 (I1 zs))]] = some [(false, [.d (.list 1 (I1 (nulls zs)))])] := by
  rw [F32.run]
  have hmax : (1048576 : Nat) ≤ maxLen := by decide
  have main : ∀ (m i n : Nat) (acc : List Int), i + m = zs.length → m < n → SS acc → acc.length ≤ i → (∀ z, z ∈ acc ↔ ∃ v ∈ zs.take i, isN v = true ∧ z = -1 - v) → F32.L3 (k + 2) (C (k + 2)) n (I1 acc) (i : Int) r (I1 zs) = some [(false, [.d (.list 1 (I1 (nulls zs)))])] := by
    intro m
    induction m with
    | zero =>
      intro i n acc hm hn hS hl hmem
      obtain ⟨n, rfl⟩ : ∃ j, n = j + 1 := ⟨n - 1, by omega⟩
      obtain rfl : i = zs.length := by omega
      rw [List.take_length] at hmem
      rw [F32.L3.succ, I1_len, ite'_f (lt_f (by omega)), ss_eq hS (nulls_ss zs) (fun z => by rw [hmem z, mem_nulls])]
    | succ m ih =>
      intro i n acc hm hn hS hl hmem
      obtain ⟨n, rfl⟩ : ∃ j, n = j + 1 := ⟨n - 1, by omega⟩
      have hi : i < zs.length := by omega
      have hx := List.getElem?_eq_getElem hi
      have htk : ∀ z, z ∈ zs.take (i + 1) ↔ z ∈ zs.take i ∨ z = zs[i] := by
        intro z
        rw [List.take_succ_eq_append_getElem hi]
        simp only [List.mem_append, List.mem_singleton]
      rw [F32.L3.succ, I1_len, ite'_t (lt_t hi), ite'_t (inR_t hi)]
      simp only [Int.toNat_natCast, cellI_at (I1_get' hx), List.getElem?_cons_zero, Option.bind_some, asI_s, bindI_s]
      rw [c69 (hI _ (List.getElem_mem hi)), nnB, next_i hi (m := zs.length) (by omega)]
      cases h : isN zs[i] with
      | true =>
        obtain ⟨r', ws, e1, e2, e3, e4, e5⟩ := c70s (k := k + 1) acc (-1 - zs[i]) hS (by omega) (by omega)
        rw [ite'_t rfl]
        simp only [if_true]
        rw [e1]
        simp only [bindR_s]
        rw [e2, bindL_s]
        refine ih (i + 1) n ws (by omega) (by omega) e5 (by omega) (fun z => ?_)
        rw [e3 z, hmem z]
        constructor
        · rintro (⟨v, h1, h2⟩ | h1)
          · exact ⟨v, (htk v).2 (.inl h1), h2⟩
          · exact ⟨zs[i], (htk _).2 (.inr rfl), h, h1⟩
        · rintro ⟨v, h1, h2⟩
          rcases (htk v).1 h1 with h1 | rfl
          · exact .inl ⟨v, h1, h2⟩
          · exact .inr h2.2
      | false =>
        rw [ite'_f rfl]
        refine ih (i + 1) n acc (by omega) (by omega) hS (by omega) (fun z => ?_)
        rw [hmem z]
        constructor
        · rintro ⟨v, h1, h2⟩
          exact ⟨v, (htk v).2 (.inl h1), h2⟩
        · rintro ⟨v, h1, h2⟩
          rcases (htk v).1 h1 with h1 | rfl
          · exact ⟨v, h1, h2⟩
          · rw [h] at h2; cases h2.1
  exact main zs.length 0 (k + 2) [] (by omega) (by omega) (by simp [SS]) (by simp) (fun z => by simp)
/-- impl.NullsOfFact -/
theorem c55 (r : Int) (zs : List Int) (hI : ∀ z ∈ zs, inI z) (hk : zs.length < k) (hz : zs.length ≤ 1048576) : C (k + 4) 55 [.agg [.d (.int .i64 r), .d (.list 1 (I1 zs))]] = some [(false, [.row 3 1 (I1 (nulls zs))])] := by
  rw [F55.run, c85 zs hI hk hz]
  rfl
end Go.Proofs.Ytjfdcddjheandaa.Q

/-! NIb -/
namespace Go.Proofs.Ytjfdcddjheandaa.Q
open Go Ovi
variable {k : Nat}
/-! ### the order of facts -/
def cmpI : List Int → List Int → Int
  | [], [] => 0
  | [], _ :: _ => -1
  | _ :: _, [] => 1
  | x :: xs, y :: ys => if x < y then -1 else if x > y then 1 else cmpI xs ys
def io (n : Int) : Option Res := some [(false, [.d (.int .i64 n)])]
theorem iB' (n : Int) (f : Int → Option Res) : (bindR (io n) fun r => bindI (resI .i64 1 false 1 r 0 0) f) = f n := rfl
/-- cmp.Compare -/
def cmp1 (x y : Int) : Int := if x < y then -1 else if x > y then 1 else 0
theorem c91 (x y : Int) : C (k + 2) 91 [.d (.int .i64 x), .d (.int .i64 y)] = io (cmp1 x y) := by
  rw [F91.run, F123.run, F123.run]
  simp only [bne_self_eq_false, bindR_s, resB_s, bindB_s]
  rw [ite'_f rfl, ite'_f rfl]
  unfold cmp1
  by_cases h : x < y
  · rw [ite'_t (by simpa using h), if_pos h]; rfl
  · rw [ite'_f (by simpa using h), if_neg h]
    by_cases h' : x > y
    · rw [ite'_t (by simpa using h'), if_pos h']; rfl
    · rw [ite'_f (by simpa using h'), if_neg h']; rfl
theorem cmpI_drop {a b : List Int} {i : Nat} (ha : i < a.length) (hb : i < b.length) : cmpI (a.drop i) (b.drop i) = if a[i] < b[i] then -1 else if a[i] > b[i] then 1 else cmpI (a.drop (i + 1)) (b.drop (i + 1)) := by
  rw [List.drop_eq_getElem_cons ha, List.drop_eq_getElem_cons hb]
  rfl
/-- slices.Compare on integers -/
theorem c62 (a b : List Int) (hk : a.length < k) (ha : a.length ≤ maxLen) : C (k + 3) 62 [.d (.list 1 (I1 a)), .d (.list 1 (I1 b))] = io (cmpI a b) := by
  rw [F62.run, I1_len]
  have main : ∀ (m i n : Nat), i + m = a.length → m < n → i ≤ b.length → F62.L2 (k + 2) (C (k + 2)) n (I1 a) (I1 b) (I1 a) (a.length : Int) (i : Int) = io (cmpI (a.drop i) (b.drop i)) := by
    intro m
    induction m with
    | zero =>
      intro i n hm hn hb
      obtain ⟨n, rfl⟩ : ∃ j, n = j + 1 := ⟨n - 1, by omega⟩
      obtain rfl : i = a.length := by omega
      rw [F62.L2.succ, ite'_f (lt_f (by omega)), I1_len, I1_len, List.drop_eq_nil_of_le (Nat.le_refl _)]
      by_cases h : a.length < b.length
      · rw [ite'_t (lt_t h), List.drop_eq_getElem_cons h]; rfl
      · rw [ite'_f (lt_f h), List.drop_eq_nil_of_le (by omega)]; rfl
    | succ m ih =>
      intro i n hm hn hb
      obtain ⟨n, rfl⟩ : ∃ j, n = j + 1 := ⟨n - 1, by omega⟩
      have hi : i < a.length := by omega
      have hx := List.getElem?_eq_getElem hi
      rw [F62.L2.succ, ite'_t (lt_t hi), I1_len, ite'_t (inR_t hi)]
      simp only [Int.toNat_natCast, cellI_at (I1_get' hx), List.getElem?_cons_zero, Option.bind_some, asI_s, bindI_s]
      rw [I1_len]
      by_cases h : i < b.length
      · have hy := List.getElem?_eq_getElem h
        rw [ite'_f (b := decide ((i : Int) ≥ (b.length : Int))) (by simp; omega), ite'_t (inR_t h)]
        simp only [cellI_at (I1_get' hy), List.getElem?_cons_zero, Option.bind_some, asI_s, bindI_s]
        rw [c91, iB', cmpI_drop hi h, next_i hi ha, ih (i + 1) n (by omega) (by omega) (by omega)]
        unfold cmp1
        by_cases h1 : a[i] < b[i]
        · rw [if_pos h1, if_pos h1]; rfl
        · rw [if_neg h1, if_neg h1]
          by_cases h2 : a[i] > b[i]
          · rw [if_pos h2, if_pos h2]; rfl
          · rw [if_neg h2, if_neg h2]; rfl
      · rw [ite'_t (b := decide ((i : Int) ≥ (b.length : Int))) (by simp; omega), List.drop_eq_getElem_cons hi, show b.drop i = [] from List.drop_eq_nil_of_le (by omega)]
        rfl
  exact main a.length 0 (k + 2) (by omega) (by omega) (by omega)
/-- spec.l4Ints -/
theorem c95 (a b : List Int) (hk : a.length < k) (ha : a.length ≤ maxLen) : C (k + 1) 95 [.d (.list 1 (I1 a)), .d (.list 1 (I1 b))] = io (cmpI a b) := by
  rw [F95.run]
  have fin : ∀ (i n : Nat), i ≤ a.length → i ≤ b.length → (¬ i < a.length ∨ ¬ i < b.length) → F95.L2 k (C k) (n + 1) (I1 a) (I1 b) (i : Int) = io (cmpI (a.drop i) (b.drop i)) := by
    intro i n h1 h2 h3
    have e : F95.L2 k (C k) (n + 1) (I1 a) (I1 b) (i : Int) = ite' (decide ((a.length : Int) < (b.length : Int))) (io (-1)) (ite' (decide ((a.length : Int) > (b.length : Int))) (io 1) (io 0)) := by
      rw [F95.L2.succ, I1_len, I1_len]
      by_cases hi : i < a.length
      · rw [ite'_t (lt_t hi), ite'_f (lt_f (by omega))]; rfl
      · rw [ite'_f (lt_f hi)]; rfl
    rw [e]
    rcases Nat.lt_trichotomy a.length b.length with h | h | h
    · obtain rfl : i = a.length := by omega
      rw [ite'_t (by simp; omega), List.drop_eq_nil_of_le (Nat.le_refl _), List.drop_eq_getElem_cons h]
      rfl
    · rw [ite'_f (by simp; omega), ite'_f (by simp; omega), List.drop_eq_nil_of_le (by omega), List.drop_eq_nil_of_le (by omega)]
      rfl
    · obtain rfl : i = b.length := by omega
      rw [ite'_f (by simp; omega), ite'_t (by simp; omega), List.drop_eq_nil_of_le (Nat.le_refl _), List.drop_eq_getElem_cons h]
      rfl
  have main : ∀ (m i n : Nat), i + m = a.length → m < n → i ≤ b.length → F95.L2 k (C k) n (I1 a) (I1 b) (i : Int) = io (cmpI (a.drop i) (b.drop i)) := by
    intro m
    induction m with
    | zero =>
      intro i n hm hn hb
      obtain ⟨n, rfl⟩ : ∃ j, n = j + 1 := ⟨n - 1, by omega⟩
      exact fin i n (by omega) hb (by omega)
    | succ m ih =>
      intro i n hm hn hb
      obtain ⟨n, rfl⟩ : ∃ j, n = j + 1 := ⟨n - 1, by omega⟩
      by_cases h : i < b.length
      · have hi : i < a.length := by omega
        have hx := List.getElem?_eq_getElem hi
        have hy := List.getElem?_eq_getElem h
        rw [F95.L2.succ, I1_len, I1_len, ite'_t (lt_t hi), ite'_t (lt_t h), ite'_t (inR_t hi)]
        simp only [Int.toNat_natCast, cellI_at (I1_get' hx), cellI_at (I1_get' hy), List.getElem?_cons_zero, Option.bind_some, asI_s, bindI_s]
        rw [ite'_t (inR_t h), ite'_t (inR_t hi), ite'_t (inR_t h), next_i hi ha, ih (i + 1) n (by omega) (by omega) (by omega), cmpI_drop hi h]
        by_cases h1 : a[i] < b[i]
        · rw [ite'_t (by simpa using h1), if_pos h1]; rfl
        · rw [ite'_f (by simpa using h1), if_neg h1]
          by_cases h2 : a[i] > b[i]
          · rw [ite'_t (by simpa using h2), if_pos h2]; rfl
          · rw [ite'_f (by simpa using h2), if_neg h2]
      · exact fin i n (by omega) hb (by omega)
  exact main a.length 0 k (by omega) hk (by omega)
def cmpF (x y : Atom) : Int := if x.1 < y.1 then -1 else if x.1 > y.1 then 1 else cmpI x.2 y.2
/-- spec.CompareFacts -/
theorem c67 (x y : Atom) (hk : x.2.length < k) (ha : x.2.length ≤ maxLen) : C (k + 2) 67 [.agg [.d (.int .i64 x.1), .d (.list 1 (I1 x.2))], .agg [.d (.int .i64 y.1), .d (.list 1 (I1 y.2))]] = io (cmpF x y) := by
  rw [F67.run, c95 x.2 y.2 hk ha, iB']
  unfold cmpF
  by_cases h1 : x.1 < y.1
  · rw [ite'_t (by simpa using h1), if_pos h1]; rfl
  · rw [ite'_f (by simpa using h1), if_neg h1]
    by_cases h2 : x.1 > y.1
    · rw [ite'_t (by simpa using h2), if_pos h2]; rfl
    · rw [ite'_f (by simpa using h2), if_neg h2]; rfl
/-- cmp.Or of two -/
theorem c101 (x y : Int) : C (k + 4) 101 [.d (.list 1 [[.int .i64 x], [.int .i64 y]])] = io (if x = 0 then y else x) := by
  rw [F101.run]
  have s0 : ∀ n, F101.L3 (k + 3) (C (k + 3)) (n + 1) 0 [[.int .i64 x], [.int .i64 y]] 2 0 = ite' (x != 0) (io x) (F101.L3 (k + 3) (C (k + 3)) n 0 [[.int .i64 x], [.int .i64 y]] 2 1) := fun n => by rw [F101.L3.succ]; rfl
  have s1 : ∀ n, F101.L3 (k + 3) (C (k + 3)) (n + 1) 0 [[.int .i64 x], [.int .i64 y]] 2 1 = ite' (y != 0) (io y) (F101.L3 (k + 3) (C (k + 3)) n 0 [[.int .i64 x], [.int .i64 y]] 2 2) := fun n => by rw [F101.L3.succ]; rfl
  have s2 : ∀ n, F101.L3 (k + 3) (C (k + 3)) (n + 1) 0 [[.int .i64 x], [.int .i64 y]] 2 2 = io 0 := fun n => by rw [F101.L3.succ]; rfl
  show F101.L3 (k + 3) (C (k + 3)) (k + 2 + 1) 0 [[.int .i64 x], [.int .i64 y]] 2 0 = _
  rw [s0, s1, s2]
  by_cases h : x = 0
  · rw [if_pos h, ite'_f (by simpa using h)]
    by_cases h' : y = 0
    · rw [ite'_f (by simpa using h'), h']
    · rw [ite'_t (by simpa using h')]
  · rw [if_neg h, ite'_t (by simpa using h)]
/-- impl.CompareFacts -/
theorem c75 (x y : Atom) (hk : x.2.length < k) (ha : x.2.length ≤ maxLen) : C (k + 5) 75 [.agg [.d (.int .i64 x.1), .d (.list 1 (I1 x.2))], .agg [.d (.int .i64 y.1), .d (.list 1 (I1 y.2))]] = io (cmpF x y) := by
  rw [F75.run, c91, iB', c62 (k := k + 1) x.2 y.2 (by omega) ha, iB', c101, iB']
  unfold cmpF cmp1
  by_cases h1 : x.1 < y.1
  · rw [if_pos h1, if_pos h1]; rfl
  · rw [if_neg h1, if_neg h1]
    by_cases h2 : x.1 > y.1
    · rw [if_pos h2, if_pos h2]; rfl
    · rw [if_neg h2, if_neg h2]; rfl
/-! ### valid facts -/
def FactB (a : Ovi.Rows) (x : Atom) (b : Bool) : Prop := (b = true → 0 ≤ x.1 ∧ x.1 < (a.length : Int)) ∧ ∀ k, a.length < k → x.2.length < k → C (k + 6) 74 [.d (.list 3 a), .agg [.d (.int .i64 x.1), .d (.list 1 (I1 x.2))]] = bo b ∧ C (k + 6) 66 [.d (.list 3 a), .agg [.d (.int .i64 x.1), .d (.list 1 (I1 x.2))]] = bo b
theorem factB {a : Ovi.Rows} (ha : Fit Rl (.list 3 a)) (x : Atom) (hI : ∀ z ∈ x.2, inI z) (hx2 : x.2.length ≤ maxLen) : ∃ b, FactB a x b := by
  have hlen := ha.len
  unfold maxLen at hlen
  obtain ⟨b, hb⟩ := rels ha
  have e : ∀ k, a.length < k → C (k + 5) 73 [.d (.list 3 a)] = bo b ∧ C (k + 5) 68 [.d (.list 3 a)] = bo b := fun k hk => hb (k + 2) (by omega)
  cases b with
  | false =>
    refine ⟨false, fun h => (by cases h), fun k hk hx => ?_⟩
    rw [F74.run, F66.run, (e k hk).1, (e k hk).2, bB, bB]
    exact ⟨rfl, rfl⟩
  | true =>
    by_cases hr : 0 ≤ x.1 ∧ x.1 ≤ (a.length : Int) - 1
    · obtain ⟨i, hi⟩ : ∃ i : Nat, x.1 = i := ⟨x.1.toNat, by omega⟩
      have hia : i < a.length := by omega
      obtain ⟨row, hrow, hfr, _⟩ := ha.row hia
      obtain ⟨d0, r0, rfl, f0, h1⟩ := Fits.cons hfr
      obtain ⟨d1, r1, rfl, f1, h1⟩ := Fits.cons h1
      obtain ⟨n, rfl, _⟩ := f1.int
      have hcn : cellI .i64 a ((i : Int)).toNat 1 = some n := by rw [Int.toNat_natCast, cellI_at hrow]; simp [asI_s]
      by_cases hn : ((I1 x.2).length : Int) = n
      · refine ⟨!(x.2.any fun t => !okV t), fun _ => by omega, fun k hk hx => ?_⟩
        rw [F74.run, F66.run, (e k hk).1, (e k hk).2, bB, bB, ite'_nt, ite'_nt, c98, c93, bB, bB, wrap_id (by omega) (by omega), decide_eq_true hr, ite'_nt, ite'_nt, hi, ite'_t (inR_t hia), ite'_t (inR_t hia), hcn]
        simp only [bindI_s]
        rw [ite'_f (by simpa using hn), ite'_f (b := ((I1 x.2).length : Int) != n) (by simpa using hn)]
        have e69 := c56 (k := k + 3) x.2 99 [] (fun t => !okV t) (by omega) hx2 (fun z _ => by
          rw [List.map_nil, F99.run, c100, bB]; rfl)
        rw [e69, bB]
        refine ⟨rfl, ?_⟩
        have := loop_any (xs := x.2) (L := fun m j => F66.L4 (k + 5) (C (k + 5)) m j (i : Int) (I1 x.2)) (stop := fun t => !okV t) (hit := bo false) (fin := bo true)
          (fun m j t ht => by
            have hj := (List.getElem?_eq_some_iff.1 ht).1
            rw [F66.L4.succ, I1_len, ite'_t (lt_t hj), ite'_t (inR_t hj)]
            simp only [Int.toNat_natCast, cellI_at (I1_get' ht), List.getElem?_cons_zero, Option.bind_some, asI_s, bindI_s]
            rw [c94 (hI t (List.mem_of_getElem? ht)), bB, next_i hj hx2]; rfl)
          (fun m => by rw [F66.L4.succ, I1_len, ite'_f (lt_f (by omega))]; rfl) (k + 5) (by omega)
        rw [show F66.L4 (k + 5) (C (k + 5)) (k + 5) 0 (i : Int) (I1 x.2) = _ from this]
        cases x.2.any (fun t => !okV t) <;> rfl
      · refine ⟨false, fun h => (by cases h), fun k hk hx => ?_⟩
        rw [F74.run, F66.run, (e k hk).1, (e k hk).2, bB, bB, ite'_nt, ite'_nt, c98, c93, bB, bB, wrap_id (by omega) (by omega), decide_eq_true hr, ite'_nt, ite'_nt, hi, ite'_t (inR_t hia), ite'_t (inR_t hia), hcn]
        simp only [bindI_s]
        rw [ite'_t (by simpa using hn), ite'_t (b := ((I1 x.2).length : Int) != n) (by simpa using hn)]
        exact ⟨rfl, rfl⟩
    · refine ⟨false, fun h => (by cases h), fun k hk hx => ?_⟩
      rw [F74.run, F66.run, (e k hk).1, (e k hk).2, bB, bB, ite'_nt, ite'_nt, c98, c93, bB, bB, wrap_id (by omega) (by omega), decide_eq_false hr]
      exact ⟨rfl, rfl⟩
def src (a : Ovi.Rows) (x : Atom) : Bool := match a[x.1.toNat]? with
  | some [_, _, .bool b] => b
  | _ => false
theorem src_cell {a : Ovi.Rows} (ha : Fit Rl (.list 3 a)) {x : Atom} (h : 0 ≤ x.1 ∧ x.1 < (a.length : Int)) : inR x.1 a.length = true ∧ cellB a x.1.toNat 2 = some (src a x) := by
  obtain ⟨i, hi⟩ : ∃ i : Nat, x.1 = i := ⟨x.1.toNat, by omega⟩
  have hia : i < a.length := by omega
  obtain ⟨row, hrow, hfr, _⟩ := ha.row hia
  obtain ⟨d0, r0, rfl, f0, h1⟩ := Fits.cons hfr
  obtain ⟨d1, r1, rfl, f1, h1⟩ := Fits.cons h1
  obtain ⟨d2, r2, rfl, f2, h1⟩ := Fits.cons h1
  obtain rfl := Fits.nil h1
  obtain ⟨b, rfl⟩ := f2.bool
  rw [hi]
  refine ⟨inR_t hia, ?_⟩
  rw [Int.toNat_natCast, cellB_at hrow]
  unfold src
  rw [hi, Int.toNat_natCast, hrow]
  rfl
theorem len_terms {xs : List Atom} {x : Atom} (h : x ∈ xs) : x.2.length ≤ terms xs := by
  induction xs with
  | nil => cases h
  | cons y ys ih =>
    have e : terms (y :: ys) = y.2.length + terms ys := by simp [terms]
    rw [e]
    rcases List.mem_cons.1 h with rfl | h
    · omega
    · have := ih h; omega
/-- both IsValidInstance answer alike -/
theorem instB {a : Ovi.Rows} (ha : Fit Rl (.list 3 a)) (xs : List Atom) (hI : ∀ x ∈ xs, ∀ z ∈ x.2, inI z) (hs : terms xs + xs.length ≤ 1048576) (hal : a.length ≤ 1048576) : ∃ b, (b = true → xs.length ≤ 30 ∧ ∀ x ∈ xs, 0 ≤ x.1 ∧ x.1 < (a.length : Int)) ∧ ∀ k, 2000000 ≤ k → C (k + 8) 37 [.agg [.d (.list 3 a), .d (.list 2 (A1 xs))]] = bo b ∧ C (k + 8) 31 [.agg [.d (.list 3 a), .d (.list 2 (A1 xs))]] = bo b := by
  have hmax : (1048576 : Nat) ≤ maxLen := by decide
  have hl : ∀ x ∈ xs, x.2.length ≤ 1048576 := fun x hx => by have := len_terms hx; omega
  obtain ⟨vf, hvf⟩ : ∃ vf : Atom → Bool, ∀ x ∈ xs, FactB a x (vf x) := by
    have : ∀ x : Atom, ∃ b, x ∈ xs → FactB a x b := by
      intro x
      by_cases h : x ∈ xs
      · obtain ⟨b, hb⟩ := factB ha x (hI x h) (by have := hl x h; omega)
        exact ⟨b, fun _ => hb⟩
      · exact ⟨false, fun h' => absurd h' h⟩
    obtain ⟨vf, hv⟩ := Classical.axiomOfChoice this
    exact ⟨vf, fun x hx => hv x hx⟩
  obtain ⟨rb, hrb⟩ := rels ha
  let bad : Nat → Atom → Bool := fun i x => !vf x || ((decide (i > 0) && decide (cmpF (xs.getD (i - 1) x) x ≥ 0)) || (src a x && decide ((nulls x.2).length > 0)))
  have key : ∃ st : Bool, (st = false → ∀ x ∈ xs, vf x = true) ∧ ∀ k, 2000000 ≤ k → F37.L4 (k + 7) (C (k + 7)) (k + 7) (A1 xs) (xs.length : Int) 0 a (A1 xs) = bo (!st) ∧ F31.L2 (k + 7) (C (k + 7)) (k + 7) 0 a (A1 xs) = cond st (bo false) (bo (rb && decide ((xs.length : Int) ≤ 30))) := by
    have s78 : ∀ k, 2000000 ≤ k → ∀ (n i : Nat) x, xs[i]? = some x → F37.L4 (k + 7) (C (k + 7)) (n + 1) (A1 xs) (xs.length : Int) (i : Int) a (A1 xs) = cond (bad i x) (bo false) (F37.L4 (k + 7) (C (k + 7)) n (A1 xs) (xs.length : Int) ((i + 1 : Nat) : Int) a (A1 xs)) ∧
        F31.L2 (k + 7) (C (k + 7)) (n + 1) (i : Int) a (A1 xs) = cond (bad i x) (bo false) (F31.L2 (k + 7) (C (k + 7)) n ((i + 1 : Nat) : Int) a (A1 xs)) := by
      intro k hk n i x hx
      have hi := (List.getElem?_eq_some_iff.1 hx).1
      have hxm := List.mem_of_getElem? hx
      have hxl := hl x hxm
      obtain ⟨hv1, hv2⟩ := hvf x hxm
      obtain ⟨e1, e2⟩ := hv2 (k + 1) (by omega) (by omega)
      have hc0 : cellI .i64 (A1 xs) (i : Int).toNat 0 = some x.1 := by rw [Int.toNat_natCast, cellI_at (A1_get hx)]; simp [asI_s]
      have hc1 : cellL 1 (A1 xs) (i : Int).toNat 1 = some (I1 x.2) := by rw [Int.toNat_natCast, cellL_at (A1_get hx)]; simp [asL_s]
      rw [F37.L4.succ, F31.L2.succ, A1_len, ite'_t (lt_t hi), ite'_t (inR_t hi), ite'_t (lt_t hi), ite'_t (inR_t hi), hc0, hc1]
      simp only [bindI_s, bindL_s]
      rw [e1, e2, bB, bB, next_i hi (m := xs.length) (by omega)]
      cases hvx : vf x with
      | false =>
        have hb : bad i x = true := by simp [bad, hvx]
        rw [hb]
        exact ⟨rfl, rfl⟩
      | true =>
        obtain ⟨g1, g2⟩ := src_cell ha (hv1 hvx)
        have tail : ∀ (X Y : Option Res) (nu : Bool), nu = decide ((nulls x.2).length > 0) → True := fun _ _ _ _ => trivial
        have n126 := c55 (k := k + 3) x.1 x.2 (hI x hxm) (by omega) hxl
        have n75 := c32 (k := k + 4) x.1 x.2 (hI x hxm) (by omega) hxl
        rw [ite'_nt, ite'_nt, g1, g2, n126, n75]
        simp only [bindB_s, bindR_s, resO_s, resL_d, bindL_s, I1_len]
        have hnu : decide (((nulls x.2).length : Int) > 0) = decide ((nulls x.2).length > 0) := by
          rw [Bool.eq_iff_iff]; simp only [decide_eq_true_eq]; omega
        rw [hnu]
        by_cases h0 : i = 0
        · subst h0
          have hb : bad 0 x = (src a x && decide ((nulls x.2).length > 0)) := by simp [bad, hvx]
          rw [hb]
          cases src a x <;> cases decide ((nulls x.2).length > 0) <;> exact ⟨rfl, rfl⟩
        · have hw : IntKind.i64.wrap ((i : Int) - 1) = ((i - 1 : Nat) : Int) := by rw [wrap_id (by omega) (by omega)]; omega
          have hy : xs[i - 1]? = some xs[i - 1] := List.getElem?_eq_getElem (by omega)
          have hyl := hl _ (List.mem_of_getElem? hy)
          have hd0 : cellI .i64 (A1 xs) ((i - 1 : Nat) : Int).toNat 0 = some (xs[i - 1]).1 := by rw [Int.toNat_natCast, cellI_at (A1_get hy)]; simp [asI_s]
          have hd1 : cellL 1 (A1 xs) ((i - 1 : Nat) : Int).toNat 1 = some (I1 (xs[i - 1]).2) := by rw [Int.toNat_natCast, cellL_at (A1_get hy)]; simp [asL_s]
          have hgt : decide ((i : Int) > 0) = true := by simp; omega
          rw [hgt, hw, hd0, hd1]
          simp only [bindI_s, bindL_s]
          rw [c75 (k := k + 2) xs[i - 1] x (by omega) (by omega), c67 (k := k + 5) xs[i - 1] x (by omega) (by omega), iB', iB', inR_t (i := i - 1) (by omega)]
          have hb : bad i x = (decide (cmpF xs[i - 1] x ≥ 0) || (src a x && decide ((nulls x.2).length > 0))) := by
            simp [bad, hvx, List.getD_eq_getElem?_getD, hy, show i > 0 by omega]
          rw [hb]
          cases decide (cmpF xs[i - 1] x ≥ 0) <;> cases src a x <;> cases decide ((nulls x.2).length > 0) <;> exact ⟨rfl, rfl⟩
    have d78 : ∀ k n, F37.L4 (k + 7) (C (k + 7)) (n + 1) (A1 xs) (xs.length : Int) (xs.length : Int) a (A1 xs) = bo true := fun k n => by rw [F37.L4.succ, ite'_f (lt_f (by omega))]; rfl
    have d74 : ∀ k, 2000000 ≤ k → ∀ n, F31.L2 (k + 7) (C (k + 7)) (n + 1) (xs.length : Int) a (A1 xs) = bo (rb && decide ((xs.length : Int) ≤ 30)) := fun k hk n => by
      rw [F31.L2.succ, A1_len, ite'_f (lt_f (by omega)), (hrb (k + 4) (by omega)).2, bB]
      cases rb <;> rfl
    by_cases hall : ∀ (i : Nat) x, xs[i]? = some x → bad i x = false
    · refine ⟨false, fun _ x hx => ?_, fun k hk => ?_⟩
      · obtain ⟨i, hi⟩ := List.mem_iff_getElem?.1 hx
        have := hall i x hi
        simp only [bad, Bool.or_eq_false_iff, Bool.not_eq_false'] at this
        exact this.1
      · constructor
        · rcases loop_find (L := fun n i => F37.L4 (k + 7) (C (k + 7)) n (A1 xs) (xs.length : Int) i a (A1 xs)) (stop := bad) (hit := fun _ => bo false) (fin := bo true) (fun n i x hx => (s78 k hk n i x hx).1) (d78 k) (k + 7) (by omega) with ⟨i, x, hx, hst, _⟩ | ⟨_, h⟩
          · rw [hall i x hx] at hst; cases hst
          · exact h
        · rcases loop_find (L := fun n i => F31.L2 (k + 7) (C (k + 7)) n i a (A1 xs)) (stop := bad) (hit := fun _ => bo false) (fun n i x hx => (s78 k hk n i x hx).2) (d74 k hk) (k + 7) (by omega) with ⟨i, x, hx, hst, _⟩ | ⟨_, h⟩
          · rw [hall i x hx] at hst; cases hst
          · exact h
    · refine ⟨true, ⟨fun h => (by cases h), fun k hk => ?_⟩⟩
      constructor
      · rcases loop_find (L := fun n i => F37.L4 (k + 7) (C (k + 7)) n (A1 xs) (xs.length : Int) i a (A1 xs)) (stop := bad) (hit := fun _ => bo false) (fin := bo true) (fun n i x hx => (s78 k hk n i x hx).1) (d78 k) (k + 7) (by omega) with ⟨i, x, hx, hst, h⟩ | ⟨h, _⟩
        · exact h
        · exact absurd h hall
      · rcases loop_find (L := fun n i => F31.L2 (k + 7) (C (k + 7)) n i a (A1 xs)) (stop := bad) (hit := fun _ => bo false) (fun n i x hx => (s78 k hk n i x hx).2) (d74 k hk) (k + 7) (by omega) with ⟨i, x, hx, hst, h⟩ | ⟨h, _⟩
        · exact h
        · exact absurd h hall
  obtain ⟨st, hst, hk2⟩ := key
  refine ⟨rb && (decide ((xs.length : Int) ≤ 30) && !st), fun h => ?_, fun k hk => ?_⟩
  · simp only [Bool.and_eq_true, decide_eq_true_eq, Bool.not_eq_true'] at h
    exact ⟨by omega, fun x hx => (hvf x hx).1 (hst h.2.2 x hx)⟩
  · obtain ⟨e1, e2⟩ := hk2 k hk
    constructor
    · rw [F37.run, (hrb (k + 4) (by omega)).1, bB, A1_len, e1]
      cases rb with
      | false => rfl
      | true =>
        rw [ite'_nt]
        by_cases h30 : (xs.length : Int) ≤ 30
        · rw [ite'_f (by simp; omega), decide_eq_true h30]; rfl
        · rw [ite'_t (by simp; omega), decide_eq_false h30]; rfl
    · rw [F31.run, e2]
      cases st <;> cases rb <;> cases decide ((xs.length : Int) ≤ 30) <;> rfl
/-! ### the nulls of an instance -/
def vals (xs : List Atom) : List Int := xs.flatMap fun x => x.2
theorem vals_len (xs : List Atom) : (vals xs).length = terms xs := by simp [vals, terms, List.length_flatMap]
theorem vals_I {xs : List Atom} (hI : ∀ x ∈ xs, ∀ z ∈ x.2, inI z) : ∀ z ∈ vals xs, inI z := by
  intro z hz
  obtain ⟨x, hx, h⟩ := List.mem_flatMap.1 hz
  exact hI x hx z h
/-- spec.NullsOfInstance -/
theorem c54 (a : Ovi.Rows) (xs : List Atom) (hI : ∀ x ∈ xs, ∀ z ∈ x.2, inI z) (hk : 2000000 ≤ k) (hs : terms xs + xs.length ≤ 1048576) : C (k + 4) 54 [.agg [.d (.list 3 a), .d (.list 2 (A1 xs))]] = some [(false, [.d (.list 1 (I1 (nulls (vals xs))))])] := by
  have hmax : (1048576 : Nat) ≤ maxLen := by decide
  rw [F54.run]
  have inner : ∀ (ls : List Int) (i : Nat), ls.length ≤ 1048576 → i < xs.length → ∀ (m j n k3 : Nat) (acc : List Int), j + m = ls.length → m < n → SS acc → acc.length + m ≤ 1048576 → 
      ∃ acc', F54.L7 (k + 3) (C (k + 3)) k3 n (I1 acc) (i : Int) (I1 ls) (j : Int) a (A1 xs) = F54.L3 (k + 3) (C (k + 3)) k3 (I1 acc') ((i + 1 : Nat) : Int) a (A1 xs) ∧ SS acc' ∧ acc'.length ≤ acc.length + m ∧ ∀ z, z ∈ acc' ↔ z ∈ acc ∨ z ∈ ls.drop j := by
    intro ls i hls hi m
    induction m with
    | zero =>
      intro j n k3 acc hm hn hS hl
      obtain ⟨n, rfl⟩ : ∃ j, n = j + 1 := ⟨n - 1, by omega⟩
      refine ⟨acc, ?_, hS, by omega, fun z => by rw [List.drop_eq_nil_of_le (by omega)]; simp⟩
      rw [F54.L7.succ, I1_len, ite'_f (lt_f (by omega)), next_i hi (m := xs.length) (by omega)]
    | succ m ih =>
      intro j n k3 acc hm hn hS hl
      obtain ⟨n, rfl⟩ : ∃ j, n = j + 1 := ⟨n - 1, by omega⟩
      have hj : j < ls.length := by omega
      have hz := List.getElem?_eq_getElem hj
      obtain ⟨r', ws, e1, e2, e3, e4, e5⟩ := c70s (k := k + 2) acc ls[j] hS (by omega) (by omega)
      rw [F54.L7.succ, I1_len, ite'_t (lt_t hj), ite'_t (inR_t hj)]
      simp only [Int.toNat_natCast, cellI_at (I1_get' hz), List.getElem?_cons_zero, Option.bind_some, asI_s, bindI_s]
      rw [e1]
      simp only [bindR_s]
      rw [e2, bindL_s, next_i hj (m := ls.length) (by omega)]
      obtain ⟨acc', g1, g2, g3, g4⟩ := ih (j + 1) n k3 ws (by omega) (by omega) e5 (by omega)
      refine ⟨acc', g1, g2, by omega, fun z => ?_⟩
      rw [g4 z, e3 z, List.drop_eq_getElem_cons hj, List.mem_cons, or_assoc]
  have outer : ∀ (m i n : Nat) (acc : List Int), i + m = xs.length → m < n → SS acc → acc.length ≤ terms (xs.take i) → (∀ z, z ∈ acc ↔ z ∈ nulls (vals (xs.take i))) →
      F54.L3 (k + 3) (C (k + 3)) n (I1 acc) (i : Int) a (A1 xs) = some [(false, [.d (.list 1 (I1 (nulls (vals xs))))])] := by
    intro m
    induction m with
    | zero =>
      intro i n acc hm hn hS ha hmem
      obtain ⟨n, rfl⟩ : ∃ j, n = j + 1 := ⟨n - 1, by omega⟩
      obtain rfl : i = xs.length := by omega
      rw [List.take_length] at hmem
      rw [F54.L3.succ, A1_len, ite'_f (lt_f (by omega)), ss_eq hS (nulls_ss _) hmem]
    | succ m ih =>
      intro i n acc hm hn hS ha hmem
      obtain ⟨n, rfl⟩ : ∃ j, n = j + 1 := ⟨n - 1, by omega⟩
      have hi : i < xs.length := by omega
      have hx := List.getElem?_eq_getElem hi
      have hxm := List.mem_of_getElem? hx
      have hta := terms_at hx
      have htl := terms_le xs (i + 1)
      have hnl := nulls_len (xs[i]).2
      rw [F54.L3.succ, A1_len, ite'_t (lt_t hi), ite'_t (inR_t hi)]
      simp only [Int.toNat_natCast, cellI_at (A1_get hx), cellL_at (A1_get hx), List.getElem?_cons_zero, List.getElem?_cons_succ, Option.bind_some, asI_s, asL_s, bindI_s, bindL_s]
      rw [c32 (k := k) (xs[i]).1 (xs[i]).2 (hI _ hxm) (by omega) (by omega)]
      simp only [bindR_s, resL_d, bindL_s]
      obtain ⟨acc', g1, g2, g3, g4⟩ := inner (nulls (xs[i]).2) i (by omega) hi (nulls (xs[i]).2).length 0 (k + 3) n acc (by omega) (by omega) hS (by omega)
      rw [show ((0 : Nat) : Int) = 0 from rfl] at g1
      rw [g1]
      refine ih (i + 1) n acc' (by omega) (by omega) g2 (by omega) (fun z => ?_)
      rw [g4 z, List.drop_zero, hmem z, mem_nulls, mem_nulls, mem_nulls, List.take_succ_eq_append_getElem hi]
      unfold vals
      rw [List.flatMap_append]
      simp only [List.mem_append, List.flatMap_cons, List.flatMap_nil, List.append_nil]
      constructor
      · rintro (⟨v, h1, h2⟩ | ⟨v, h1, h2⟩)
        · exact ⟨v, .inl h1, h2⟩
        · exact ⟨v, .inr h1, h2⟩
      · rintro ⟨v, h1 | h1, h2⟩
        · exact .inl ⟨v, h1, h2⟩
        · exact .inr ⟨v, h1, h2⟩
  exact outer xs.length 0 (k + 3) [] (by omega) (by omega) (by simp [SS]) (by simp) (fun z => by simp [mem_nulls, vals])
end Go.Proofs.Ytjfdcddjheandaa.Q

/-! NJa -/
namespace Go.Proofs.Ytjfdcddjheandaa.Q
open Go Ovi
variable {k : Nat}
/-! ### blocks of nulls: the loops -/
def nl (xs : List Atom) : BL := xs.map fun x => nulls x.2
theorem nl_len (xs : List Atom) : (nl xs).length = xs.length := by simp [nl]
theorem nulls_in (zs : List Int) : ∀ z ∈ nulls zs, in40 z := by
  intro z hz
  obtain ⟨v, _, hv, rfl⟩ := (mem_nulls zs z).1 hz
  have := isN_t hv
  unfold in40; omega
theorem nl_in (xs : List Atom) : ∀ m ∈ nl xs, ∀ z ∈ m, in40 z := by
  intro m hm z hz
  obtain ⟨x, _, rfl⟩ := List.mem_map.1 hm
  exact nulls_in _ z hz
theorem nulls_short (zs : List Int) : (nulls zs).length ≤ 40 := ss_short (nulls_ss zs) (nulls_in zs)
theorem nl_take {xs : List Atom} {i : Nat} (h : i < xs.length) : (nl xs).take (i + 1) = (nl xs).take i ++ [nulls (xs[i]).2] := by
  rw [List.take_succ_eq_append_getElem (by rw [nl_len]; exact h)]
  simp [nl]
theorem blocks_snoc (F : BL) (m : List Int) : blocks (F ++ [m]) = stepB (blocks F) m := by simp [blocks]
theorem blocks_len (F B : BL) : (F.foldl stepB B).length ≤ B.length + F.length := by
  induction F generalizing B with
  | nil => exact Nat.le_refl _
  | cons m F ih =>
    have := ih (stepB B m)
    have := stepB_len B m
    simp only [List.foldl_cons, List.length_cons]
    omega
theorem blocks_short {F : BL} (hF : ∀ m ∈ F, ∀ z ∈ m, in40 z) : ∀ b ∈ blocks F, b.length ≤ 40 := by
  intro b hb
  have hI := blocks_inv F
  refine ss_short (hI.ss b hb) fun z hz => ?_
  obtain ⟨m, hm, hz⟩ := (hI.cov z).1 ⟨b, hb, hz⟩
  exact hF m hm z hz
theorem LL_get' {l : BL} {i : Nat} {zs : List Int} (h : l[i]? = some zs) : (LL l)[i]? = some [.list 1 (I1 zs)] := by simp [LL, h]
theorem LL_snoc (l : BL) (b : List Int) : LL l ++ [[D.list 1 (I1 b)]] = LL (l ++ [b]) := by simp [LL]
theorem I1_app (a b : List Int) : I1 a ++ I1 b = I1 (a ++ b) := by simp [I1]
/-- impl.NullBlocks, the loops -/
theorem nb_impl (xs : List Atom) (hI : ∀ x ∈ xs, ∀ z ∈ x.2, inI z) (hk : 2000000 ≤ k) (hs : terms xs + xs.length ≤ 1048576) (h30 : xs.length ≤ 30) :
    F25.L5 (k + 8) (C (k + 8)) (k + 8) (A1 xs) (xs.length : Int) 0 [] = some [(false, [.row 26 1 (LL (sortLists (blocks (nl xs))))])] := by
  have hmax : (1048576 : Nat) ≤ maxLen := by decide
  have inner : ∀ (out : BL) (i : Nat), i < xs.length → out.length ≤ 31 → (∀ o ∈ out, o.length ≤ 40) → ∀ (m j n k5 : Nat) (b : List Int) (r : BL), j + m = out.length → m < n → b.length ≤ 40 + 40 * j → r.length ≤ j →
      F25.L11 (k + 8) (C (k + 8)) k5 n (A1 xs) (xs.length : Int) (i : Int) (out.length : Int) (j : Int) (I1 b) (LL r) (LL out) =
      F25.L5 (k + 8) (C (k + 8)) k5 (A1 xs) (xs.length : Int) ((i + 1 : Nat) : Int) (LL ((mergeF (out.drop j) b r).2 ++ [Lib.compact (sortInts (mergeF (out.drop j) b r).1)])) := by
    intro out i hi ho hl m
    induction m with
    | zero =>
      intro j n k5 b r hm hn hb hr
      obtain ⟨n, rfl⟩ : ∃ j, n = j + 1 := ⟨n - 1, by omega⟩
      obtain rfl : j = out.length := by omega
      rw [List.drop_length, mergeF]
      have e1 : C (k + 8) 59 [.var 0 0, .d (.int .i64 3), .d (.list 1 (I1 b))] = some [(false, [.row 3 1 (I1 (sortInts b))])] := by
        show sortP _ = _
        unfold sortP rawArg
        simp only [ints_I1]
        rw [show Nat.ble b.length 1099511627776 = true from Nat.ble_eq_true_of_le (by omega)]
        rfl
      have hsl : (sortInts b).length = b.length := by simp [sortInts]
      have e2 : C (k + 8) 60 [.var 0 0, .d (.int .i64 3), .d (.list 1 (I1 (sortInts b)))] = some [(false, [.row 3 1 (I1 (Lib.compact (sortInts b)))]), (true, [])] := by
        show compactP _ = _
        unfold compactP rawArg
        simp only [ints_I1]
        rw [show Nat.ble (sortInts b).length 1099511627776 = true from Nat.ble_eq_true_of_le (by omega)]
        rfl
      rw [F25.L11.succ, ite'_f (lt_f (by omega)), e1]
      simp only [bindR_s, resO_s, bindL_s]
      rw [e2]
      show ite' (fits ((LL r).length + 1)) (F25.L5 (k + 8) (C (k + 8)) k5 (A1 xs) (xs.length : Int) (IntKind.i64.wrap ((i : Int) + 1)) (LL r ++ [[D.list 1 (I1 (Lib.compact (sortInts b)))]])) none = _
      rw [ite'_t (fits_t (by rw [LL_len]; omega)), next_i hi (m := xs.length) (by omega), LL_snoc]
    | succ m ih =>
      intro j n k5 b r hm hn hb hr
      obtain ⟨n, rfl⟩ : ∃ j, n = j + 1 := ⟨n - 1, by omega⟩
      have hj : j < out.length := by omega
      have hx := List.getElem?_eq_getElem hj
      have hol := hl _ (List.getElem_mem hj)
      have e1 : C (k + 8) 56 [.d (.list 1 (I1 out[j])), .d (.fn 57 [[.list 1 (I1 b)]])] = bo (hits out[j] b) := by
        refine c56 (k := k + 6) out[j] 57 [[.list 1 (I1 b)]] (fun z => decide (z ∈ b)) (by omega) (by omega) fun z hz => ?_
        show C (k + 6) 57 [.d (.int .i64 z), .cap [.list 1 (I1 b)] 0] = _
        rw [F57.run, c58 (k := k + 3) b z (by omega) (by omega), bB]
        rfl
      rw [F25.L11.succ, LL_len, ite'_t (lt_t hj), ite'_t (inR_t hj)]
      simp only [Int.toNat_natCast, cellL_at (LL_get' hx), List.getElem?_cons_zero, Option.bind_some, asL_s, bindL_s]
      rw [e1, bB, next_i hj (m := out.length) (by omega), List.drop_eq_getElem_cons hj, mergeF]
      cases hits out[j] b with
      | true =>
        rw [ite'_t rfl, ite'_t (fits_t (by rw [I1_len, I1_len]; omega)), I1_app, cond_true]
        exact ih (j + 1) n k5 (b ++ out[j]) r (by omega) (by omega) (by rw [List.length_append]; omega) (by omega)
      | false =>
        rw [ite'_f rfl, ite'_t (fits_t (by rw [LL_len]; simp; omega)), LL_snoc, cond_false]
        exact ih (j + 1) n k5 b (r ++ [out[j]]) (by omega) (by omega) (by omega) (by rw [List.length_append, List.length_singleton]; omega)
  have main : ∀ (m i n : Nat), i + m = xs.length → m < n → F25.L5 (k + 8) (C (k + 8)) n (A1 xs) (xs.length : Int) (i : Int) (LL (blocks ((nl xs).take i))) = some [(false, [.row 26 1 (LL (sortLists (blocks (nl xs))))])] := by
    intro m
    induction m with
    | zero =>
      intro i n hm hn
      obtain ⟨n, rfl⟩ : ∃ j, n = j + 1 := ⟨n - 1, by omega⟩
      obtain rfl : i = xs.length := by omega
      rw [List.take_of_length_le (by rw [nl_len]; omega)]
      have hbl := blocks_len (nl xs) []
      rw [nl_len] at hbl
      have hbl : (blocks (nl xs)).length ≤ xs.length := by simpa [blocks] using hbl
      have e1 : C (k + 8) 61 [.var 0 0, .d (.int .i64 26), .d (.list 1 (LL (blocks (nl xs)))), .d (.fn 62 [])] = some [(false, [.row 26 1 (LL (sortLists (blocks (nl xs))))])] := by
        show sortFP 62 _ = _
        unfold sortFP sortFArg
        simp only [lists_LL, Option.bind_some]
        rw [show (Nat.ble (blocks (nl xs)).length 1099511627776 && (blocks (nl xs)).all fun z => Nat.ble z.length 1099511627776) = true by
          rw [Bool.and_eq_true, List.all_eq_true]
          exact ⟨Nat.ble_eq_true_of_le (by omega), fun z hz => Nat.ble_eq_true_of_le (by have := blocks_short (nl_in xs) z hz; omega)⟩]
        rfl
      rw [F25.L5.succ, ite'_f (lt_f (by omega)), e1]
      simp only [bindR_s, resO_s, bindL_s]
    | succ m ih =>
      intro i n hm hn
      obtain ⟨n, rfl⟩ : ∃ j, n = j + 1 := ⟨n - 1, by omega⟩
      have hi : i < xs.length := by omega
      have hx := List.getElem?_eq_getElem hi
      have hmem := List.getElem_mem hi
      have hlt := len_terms hmem
      rw [F25.L5.succ, A1_len, ite'_t (lt_t hi), ite'_t (inR_t hi)]
      simp only [Int.toNat_natCast, cellI_at (A1_get hx), cellL_at (A1_get hx), List.getElem?_cons_zero, List.getElem?_cons_succ, Option.bind_some, asI_s, asL_s, bindI_s, bindL_s]
      rw [c55 (k := k + 4) _ _ (hI _ hmem) (by omega) (by omega)]
      simp only [bindR_s, resO_s, bindL_s]
      have hnx := ih (i + 1) n (by omega) (by omega)
      rw [nl_take hi, blocks_snoc] at hnx
      rw [I1_len, LL_len]
      by_cases h0 : nulls (xs[i]).2 = []
      · rw [h0, ite'_t (by simp), next_i hi (m := xs.length) (by omega), ← hnx, stepB, if_pos h0]
      · rw [ite'_f (by simp [h0])]
        have hbl := blocks_len ((nl xs).take i) []
        rw [List.length_take, nl_len] at hbl
        have hbl : (blocks ((nl xs).take i)).length ≤ i := by simp only [List.length_nil] at hbl; unfold blocks; omega
        have := inner (blocks ((nl xs).take i)) i hi (by omega) (blocks_short fun m hm => nl_in xs m (List.mem_of_mem_take hm)) (blocks ((nl xs).take i)).length 0 (k + 8) n (nulls (xs[i]).2) [] (by omega) (by omega) (by have := nulls_short (xs[i]).2; omega) (Nat.zero_le _)
        rw [List.drop_zero] at this
        rw [← hnx, stepB, if_neg h0]
        exact this
  exact main xs.length 0 (k + 8) (by omega) (by omega)
end Go.Proofs.Ytjfdcddjheandaa.Q

/-! NJb -/
namespace Go.Proofs.Ytjfdcddjheandaa.Q
open Go Ovi
variable {k : Nat}
theorem rowsSet_I1 {M : List Int} {i : Nat} (z : Int) (h : i < M.length) : rowsSet (I1 M) i 0 [.int .i64 z] = I1 (M.set i z) := by
  have : (I1 M).getD i [] = [.int .i64 M[i]] := by simp [I1, List.getD, h]
  unfold rowsSet
  rw [this]
  simp [I1, List.map_set]
theorem mk_at {M : List Int} {z : Int} (hM : M.length = 40) (hz : in40 z) : M[z.toNat]? = some (mk M z) := by
  unfold in40 at hz
  have : z.toNat < M.length := by omega
  simp [mk, List.getD, this]
theorem inR40 {M : List Int} {z : Int} (hM : M.length = 40) (hz : in40 z) : inR z (I1 M).length = true := by
  unfold in40 at hz
  rw [I1_len, hM]
  simp only [inR, decide_eq_true_eq]
  omega
theorem minI_eq (a b : Int) : minI a b = min a b := by unfold minI; split <;> omega
theorem maxI_eq (a b : Int) : maxI a b = max a b := by unfold maxI; split <;> omega
theorem stepM_len (M m : List Int) : (stepM M m).length = M.length := setL_len _ _ _
theorem roundM_len (F : BL) (M : List Int) : (roundM F M).length = M.length := by
  unfold roundM
  induction F generalizing M with
  | nil => rfl
  | cons m F ih => rw [List.foldl_cons, ih, stepM_len]
/-- spec.NullBlocks, the loops -/
theorem nb_spec (a : Ovi.Rows) (xs : List Atom) (V : List Int) (hV : ∀ z ∈ V, in40 z) (hVl : V.length ≤ 40) (hI : ∀ x ∈ xs, ∀ z ∈ x.2, inI z) (hk : 2000000 ≤ k) (hs : terms xs + xs.length ≤ 1048576) (h30 : xs.length ≤ 30) :
    F24.L7 (k + 8) (C (k + 8)) (k + 8) (I1 V) 0 a (A1 xs) [] (I1 (List.replicate 40 0)) = some [(false, [.row 26 1 (LL (gather V (roundsM (nl xs) V.length M0)))])] := by
  have hmax : (1048576 : Nat) ≤ maxLen := by decide
  -- the inner loops of a round
  have l19 : ∀ (ms M : List Int) (k11 k14 t i : Nat) (out : Ovi.Rows), ms.length ≤ 40 → (∀ z ∈ ms, in40 z) → M.length = 40 → ∀ (m j n : Nat) (l : Int), j + m = ms.length → m < n →
      F24.L19 (k + 8) (C (k + 8)) k11 k14 n (I1 V) (t : Int) (i : Int) (I1 ms) l (j : Int) a (A1 xs) out (I1 M) = F24.L23 (k + 8) (C (k + 8)) k11 k14 (k + 8) (I1 V) (t : Int) (i : Int) (I1 ms) ((ms.drop j).foldl (fun l z => min l (mk M z)) l) 0 a (A1 xs) out (I1 M) := by
    intro ms M k11 k14 t i out hml hms hM m
    induction m with
    | zero =>
      intro j n l hm hn
      obtain ⟨n, rfl⟩ : ∃ j, n = j + 1 := ⟨n - 1, by omega⟩
      obtain rfl : j = ms.length := by omega
      rw [F24.L19.succ, I1_len, ite'_f (lt_f (by omega)), List.drop_length]
      rfl
    | succ m ih =>
      intro j n l hm hn
      obtain ⟨n, rfl⟩ : ∃ j, n = j + 1 := ⟨n - 1, by omega⟩
      have hj : j < ms.length := by omega
      have hx := List.getElem?_eq_getElem hj
      have hz := hms _ (List.getElem_mem hj)
      rw [F24.L19.succ, I1_len, ite'_t (lt_t hj), ite'_t (inR_t hj)]
      simp only [Int.toNat_natCast, cellI_at (I1_get' hx), List.getElem?_cons_zero, Option.bind_some, asI_s, bindI_s]
      rw [ite'_t (inR40 hM hz)]
      simp only [cellI_at (I1_get' (mk_at hM hz)), List.getElem?_cons_zero, Option.bind_some, asI_s, bindI_s]
      rw [next_i hj (m := ms.length) (by omega), minI_eq, ih (j + 1) n _ (by omega) (by omega), List.drop_eq_getElem_cons hj, List.foldl_cons]
  have l23 : ∀ (ms : List Int) (k11 k14 t i : Nat) (out : Ovi.Rows) (l : Int), ms.length ≤ 40 → (∀ z ∈ ms, in40 z) → i < xs.length → ∀ (m j n : Nat) (M : List Int), j + m = ms.length → m < n → M.length = 40 →
      F24.L23 (k + 8) (C (k + 8)) k11 k14 n (I1 V) (t : Int) (i : Int) (I1 ms) l (j : Int) a (A1 xs) out (I1 M) = F24.L14 (k + 8) (C (k + 8)) k11 k14 (I1 V) (t : Int) ((i + 1 : Nat) : Int) a (A1 xs) out (I1 (setL M (ms.drop j) l)) := by
    intro ms k11 k14 t i out l hml hms hi m
    induction m with
    | zero =>
      intro j n M hm hn hM
      obtain ⟨n, rfl⟩ : ∃ j, n = j + 1 := ⟨n - 1, by omega⟩
      obtain rfl : j = ms.length := by omega
      rw [F24.L23.succ, I1_len, ite'_f (lt_f (by omega)), List.drop_length, next_i hi (m := xs.length) (by omega)]
      rfl
    | succ m ih =>
      intro j n M hm hn hM
      obtain ⟨n, rfl⟩ : ∃ j, n = j + 1 := ⟨n - 1, by omega⟩
      have hj : j < ms.length := by omega
      have hx := List.getElem?_eq_getElem hj
      have hz := hms _ (List.getElem_mem hj)
      have hz' := hz
      unfold in40 at hz'
      rw [F24.L23.succ, I1_len, ite'_t (lt_t hj), ite'_t (inR_t hj)]
      simp only [Int.toNat_natCast, cellI_at (I1_get' hx), List.getElem?_cons_zero, Option.bind_some, asI_s, bindI_s]
      rw [ite'_t (inR40 hM hz), next_i hj (m := ms.length) (by omega), rowsSet_I1 l (by omega), ih (j + 1) n _ (by omega) (by omega) (by simpa using hM), List.drop_eq_getElem_cons hj]
      rfl
  have l14 : ∀ (k11 t : Nat) (out : Ovi.Rows), t < V.length → ∀ (m i n : Nat) (M : List Int), i + m = xs.length → m < n → M.length = 40 →
      F24.L14 (k + 8) (C (k + 8)) k11 n (I1 V) (t : Int) (i : Int) a (A1 xs) out (I1 M) = F24.L11 (k + 8) (C (k + 8)) k11 (I1 V) ((t + 1 : Nat) : Int) a (A1 xs) out (I1 (((nl xs).drop i).foldl stepM M)) := by
    intro k11 t out ht m
    induction m with
    | zero =>
      intro i n M hm hn hM
      obtain ⟨n, rfl⟩ : ∃ j, n = j + 1 := ⟨n - 1, by omega⟩
      obtain rfl : i = xs.length := by omega
      rw [F24.L14.succ, A1_len, ite'_f (lt_f (by omega)), next_i ht (m := V.length) (by omega), List.drop_of_length_le (by rw [nl_len]; omega)]
      rfl
    | succ m ih =>
      intro i n M hm hn hM
      obtain ⟨n, rfl⟩ : ∃ j, n = j + 1 := ⟨n - 1, by omega⟩
      have hi : i < xs.length := by omega
      have hx := List.getElem?_eq_getElem hi
      have hmem := List.getElem_mem hi
      have hlt := len_terms hmem
      rw [F24.L14.succ, A1_len, ite'_t (lt_t hi), ite'_t (inR_t hi)]
      simp only [Int.toNat_natCast, cellI_at (A1_get hx), cellL_at (A1_get hx), List.getElem?_cons_zero, List.getElem?_cons_succ, Option.bind_some, asI_s, asL_s, bindI_s, bindL_s]
      rw [c32 (k := k + 5) _ _ (hI _ hmem) (by omega) (by omega)]
      simp only [bindR_s, resL_d, bindL_s]
      have hsh := nulls_short (xs[i]).2
      have := l19 (nulls (xs[i]).2) M k11 n t i out hsh (nulls_in _) hM (nulls (xs[i]).2).length 0 (k + 8) 40 (by omega) (by omega)
      rw [List.drop_zero] at this
      rw [show ((0 : Nat) : Int) = 0 from rfl] at this
      rw [this]
      have := l23 (nulls (xs[i]).2) k11 n t i out ((nulls (xs[i]).2).foldl (fun l z => min l (mk M z)) 40) hsh (nulls_in _) hi (nulls (xs[i]).2).length 0 (k + 8) M (by omega) (by omega) hM
      rw [List.drop_zero] at this
      rw [show ((0 : Nat) : Int) = 0 from rfl] at this
      rw [this, ih (i + 1) n _ (by omega) (by omega) (by rw [setL_len]; exact hM)]
      have hd : (nl xs).drop i = nulls (xs[i]).2 :: (nl xs).drop (i + 1) := by
        rw [List.drop_eq_getElem_cons (by rw [nl_len]; exact hi)]
        simp [nl]
      rw [hd]
      rfl
  have l11 : ∀ (out : Ovi.Rows) (m t n : Nat) (M : List Int), t + m = V.length → m < n → M.length = 40 →
      F24.L11 (k + 8) (C (k + 8)) n (I1 V) (t : Int) a (A1 xs) out (I1 M) = F24.L27 (k + 8) (C (k + 8)) (k + 8) (I1 V) 0 out (I1 (roundsM (nl xs) m M)) := by
    intro out m
    induction m with
    | zero =>
      intro t n M hm hn hM
      obtain ⟨n, rfl⟩ : ∃ j, n = j + 1 := ⟨n - 1, by omega⟩
      obtain rfl : t = V.length := by omega
      rw [F24.L11.succ, I1_len, ite'_f (lt_f (by omega))]
      rfl
    | succ m ih =>
      intro t n M hm hn hM
      obtain ⟨n, rfl⟩ : ∃ j, n = j + 1 := ⟨n - 1, by omega⟩
      have ht : t < V.length := by omega
      rw [F24.L11.succ, I1_len, ite'_t (lt_t ht)]
      have := l14 n t out ht xs.length 0 (k + 8) M (by omega) (by omega) hM
      rw [List.drop_zero] at this
      rw [show ((0 : Nat) : Int) = 0 from rfl] at this
      rw [this]
      exact ih (t + 1) n (roundM (nl xs) M) (by omega) (by omega) (by rw [roundM_len]; exact hM)
  have l31 : ∀ (M : List Int) (out : BL) (k27 i : Nat) (hi : i < V.length), M.length = 40 → out.length ≤ i → ∀ (m j n : Nat) (b : List Int), j + m = V.length → m < n → b.length ≤ j →
      F24.L31 (k + 8) (C (k + 8)) k27 n (I1 V) (i : Int) (j : Int) (LL out) (I1 M) (I1 b) = F24.L27 (k + 8) (C (k + 8)) k27 (I1 V) ((i + 1 : Nat) : Int) (LL (out ++ (if b ++ (V.drop j).filter (fun z => decide (mk M z = V[i])) ≠ [] then [b ++ (V.drop j).filter (fun z => decide (mk M z = V[i]))] else []))) (I1 M) := by
    intro M out k27 i hi hM ho m
    induction m with
    | zero =>
      intro j n b hm hn hb
      obtain ⟨n, rfl⟩ : ∃ j, n = j + 1 := ⟨n - 1, by omega⟩
      obtain rfl : j = V.length := by omega
      rw [F24.L31.succ, I1_len, ite'_f (lt_f (by omega)), List.drop_length, List.filter_nil, List.append_nil, I1_len, next_i hi (m := V.length) (by omega)]
      by_cases h0 : b = []
      · rw [h0, ite'_f (by simp), if_neg (by simp), List.append_nil]
      · have : 0 < b.length := List.length_pos_iff.2 h0
        rw [ite'_t (by simp; omega), if_pos h0, ite'_t (fits_t (by rw [LL_len]; simp; omega)), LL_snoc]
    | succ m ih =>
      intro j n b hm hn hb
      obtain ⟨n, rfl⟩ : ∃ j, n = j + 1 := ⟨n - 1, by omega⟩
      have hj : j < V.length := by omega
      have hx := List.getElem?_eq_getElem hj
      have hxi := List.getElem?_eq_getElem hi
      have hz := hV _ (List.getElem_mem hj)
      rw [F24.L31.succ, I1_len, ite'_t (lt_t hj), ite'_t (inR_t hj)]
      simp only [Int.toNat_natCast, cellI_at (I1_get' hx), List.getElem?_cons_zero, Option.bind_some, asI_s, bindI_s]
      rw [ite'_t (inR40 hM hz)]
      simp only [cellI_at (I1_get' (mk_at hM hz)), List.getElem?_cons_zero, Option.bind_some, asI_s, bindI_s]
      rw [ite'_t (inR_t hi)]
      simp only [Int.toNat_natCast, cellI_at (I1_get' hxi), List.getElem?_cons_zero, Option.bind_some, asI_s, bindI_s]
      rw [next_i hj (m := V.length) (by omega), List.drop_eq_getElem_cons hj]
      by_cases h : mk M V[j] = V[i]
      · rw [ite'_t (by simpa using h), ite'_t (inR_t hj), ite'_t (fits_t (by rw [I1_len]; simp; omega)), List.filter_cons_of_pos (by simpa using h)]
        have := ih (j + 1) n (b ++ [V[j]]) (by omega) (by omega) (by rw [List.length_append, List.length_singleton]; omega)
        rw [List.append_assoc, List.singleton_append] at this
        rw [← this, ← I1_app]
        rfl
      · rw [ite'_f (by simpa using h), List.filter_cons_of_neg (by simpa using h)]
        exact ih (j + 1) n b (by omega) (by omega) (by omega)
  have l27 : ∀ (M : List Int), M.length = 40 → ∀ (m i n : Nat) (out : BL), i + m = V.length → m < n → out.length ≤ i →
      F24.L27 (k + 8) (C (k + 8)) n (I1 V) (i : Int) (LL out) (I1 M) = some [(false, [.row 26 1 (LL (out ++ ((V.drop i).map (gath V M)).filter fun b => decide (b ≠ [])))])] := by
    intro M hM m
    induction m with
    | zero =>
      intro i n out hm hn ho
      obtain ⟨n, rfl⟩ : ∃ j, n = j + 1 := ⟨n - 1, by omega⟩
      obtain rfl : i = V.length := by omega
      rw [F24.L27.succ, I1_len, ite'_f (lt_f (by omega)), List.drop_length]
      simp
    | succ m ih =>
      intro i n out hm hn ho
      obtain ⟨n, rfl⟩ : ∃ j, n = j + 1 := ⟨n - 1, by omega⟩
      have hi : i < V.length := by omega
      rw [F24.L27.succ, I1_len, ite'_t (lt_t hi)]
      have := l31 M out n i hi hM ho V.length 0 (k + 8) [] (by omega) (by omega) (Nat.zero_le _)
      rw [List.drop_zero, List.nil_append, show ((0 : Nat) : Int) = 0 from rfl] at this
      have e : V.filter (fun z => decide (mk M z = V[i])) = gath V M V[i] := rfl
      rw [e] at this
      rw [show F24.L31 (k + 8) (C (k + 8)) n (k + 8) (I1 V) (i : Int) 0 (LL out) (I1 M) [] = _ from this, List.drop_eq_getElem_cons hi, List.map_cons, List.filter_cons]
      by_cases h0 : gath V M V[i] = []
      · rw [if_neg (by simpa using h0), if_neg (by simpa using h0), List.append_nil]
        exact ih (i + 1) n out (by omega) (by omega) (by omega)
      · rw [if_pos h0, if_pos (by simpa using h0)]
        have := ih (i + 1) n (out ++ [gath V M V[i]]) (by omega) (by omega) (by rw [List.length_append, List.length_singleton]; omega)
        rw [this, List.append_assoc, List.singleton_append]
  have l7 : ∀ (m i n : Nat) (M : List Int), i + m = 40 → m < n → M.length = 40 → (∀ j, j < i → M[j]? = some (j : Int)) →
      F24.L7 (k + 8) (C (k + 8)) n (I1 V) (i : Int) a (A1 xs) [] (I1 M) = F24.L11 (k + 8) (C (k + 8)) (k + 8) (I1 V) 0 a (A1 xs) [] (I1 M0) := by
    intro m
    induction m with
    | zero =>
      intro i n M hm hn hM hj
      obtain ⟨n, rfl⟩ : ∃ j, n = j + 1 := ⟨n - 1, by omega⟩
      obtain rfl : i = 40 := by omega
      have : M = M0 := by
        apply List.ext_getElem?
        intro j
        by_cases h : j < 40
        · rw [hj j h]
          simp [M0, h]
        · rw [List.getElem?_eq_none (by omega), List.getElem?_eq_none (by simp [M0]; omega)]
      rw [F24.L7.succ, ite'_f (by decide), this]
    | succ m ih =>
      intro i n M hm hn hM hj
      obtain ⟨n, rfl⟩ : ∃ j, n = j + 1 := ⟨n - 1, by omega⟩
      have hi : i < 40 := by omega
      rw [F24.L7.succ, ite'_t (by simp; omega), I1_len, hM, ite'_t (inR_t hi), next_i hi (by omega)]
      simp only [Int.toNat_natCast]
      rw [rowsSet_I1 _ (by omega)]
      refine ih (i + 1) n _ (by omega) (by omega) (by simpa using hM) fun j hji => ?_
      rw [List.getElem?_set]
      by_cases h : i = j
      · subst h; simp [hM, hi]
      · rw [if_neg h]; exact hj j (by omega)
  have h7 := l7 40 0 (k + 8) (List.replicate 40 0) (by omega) (by omega) (by simp) (fun j hj => by omega)
  rw [show ((0 : Nat) : Int) = 0 from rfl] at h7
  rw [h7]
  have h11 := l11 [] V.length 0 (k + 8) M0 (by omega) (by omega) (by simp [M0])
  rw [show ((0 : Nat) : Int) = 0 from rfl] at h11
  rw [h11]
  have hrl : ∀ n M, (roundsM (nl xs) n M).length = M.length := by
    intro n
    induction n with
    | zero => intro M; rfl
    | succ n ih => intro M; show (roundsM (nl xs) n (roundM (nl xs) M)).length = _; rw [ih, roundM_len]
  have h27 := l27 (roundsM (nl xs) V.length M0) (by rw [hrl]; simp [M0]) V.length 0 (k + 8) [] (by omega) (by omega) (Nat.zero_le _)
  rw [show ((0 : Nat) : Int) = 0 from rfl, List.drop_zero, List.nil_append] at h27
  exact h27
theorem V_in (xs : List Atom) (z : Int) : z ∈ nulls (vals xs) ↔ ∃ m ∈ nl xs, z ∈ m := by
  rw [mem_nulls]
  constructor
  · rintro ⟨v, hv, h1, h2⟩
    obtain ⟨x, hx, hvx⟩ := List.mem_flatMap.1 hv
    exact ⟨nulls x.2, List.mem_map.2 ⟨x, hx, rfl⟩, (mem_nulls _ _).2 ⟨v, hvx, h1, h2⟩⟩
  · rintro ⟨m, hm, hz⟩
    obtain ⟨x, hx, rfl⟩ := List.mem_map.1 hm
    obtain ⟨v, hv, h1, h2⟩ := (mem_nulls _ _).1 hz
    exact ⟨v, List.mem_flatMap.2 ⟨x, hx, hv⟩, h1, h2⟩
theorem most_law (xs : List Atom) : mostL (gather (nulls (vals xs)) (roundsM (nl xs) (nulls (vals xs)).length M0)) = mostL (sortLists (blocks (nl xs))) := by
  refine mostL_eq fun b => ?_
  rw [mem_sortLists]
  exact blocks_law (nl xs) (nl_in xs) _ (nulls_ss _) (V_in xs) b
theorem mx22 (L : BL) (hL : L.length ≤ 40) (hl : ∀ b ∈ L, b.length ≤ 1048576) (hk : 2000000 ≤ k) : F22.L4 k (C k) k 0 0 (LL L) = io (mostL L) := by
  have hmax : (1048576 : Nat) ≤ maxLen := by decide
  have main : ∀ (m i n : Nat) (a : Int), i + m = L.length → m < n → F22.L4 k (C k) n a (i : Int) (LL L) = io ((L.drop i).foldl (fun n b => max n (b.length : Int)) a) := by
    intro m
    induction m with
    | zero =>
      intro i n a hm hn
      obtain ⟨n, rfl⟩ : ∃ j, n = j + 1 := ⟨n - 1, by omega⟩
      obtain rfl : i = L.length := by omega
      rw [F22.L4.succ, LL_len, ite'_f (lt_f (by omega)), List.drop_length]
      rfl
    | succ m ih =>
      intro i n a hm hn
      obtain ⟨n, rfl⟩ : ∃ j, n = j + 1 := ⟨n - 1, by omega⟩
      have hi : i < L.length := by omega
      have hx := List.getElem?_eq_getElem hi
      rw [F22.L4.succ, LL_len, ite'_t (lt_t hi), ite'_t (inR_t hi)]
      simp only [Int.toNat_natCast, cellL_at (LL_get' hx), List.getElem?_cons_zero, Option.bind_some, asL_s, bindL_s]
      rw [I1_len, next_i hi (m := L.length) (by omega), maxI_eq, ih (i + 1) n _ (by omega) (by omega), List.drop_eq_getElem_cons hi, List.foldl_cons]
  have := main L.length 0 k 0 (by omega) (by omega)
  rw [List.drop_zero] at this
  exact this
theorem mx23 (L : BL) (hL : L.length ≤ 40) (hl : ∀ b ∈ L, b.length ≤ 1048576) (hk : 2000000 ≤ k) : F23.L3 k (C k) k 0 (L.length : Int) 0 (LL L) = io (mostL L) := by
  have hmax : (1048576 : Nat) ≤ maxLen := by decide
  have main : ∀ (m i n : Nat) (a : Int), i + m = L.length → m < n → F23.L3 k (C k) n a (L.length : Int) (i : Int) (LL L) = io ((L.drop i).foldl (fun n b => max n (b.length : Int)) a) := by
    intro m
    induction m with
    | zero =>
      intro i n a hm hn
      obtain ⟨n, rfl⟩ : ∃ j, n = j + 1 := ⟨n - 1, by omega⟩
      obtain rfl : i = L.length := by omega
      rw [F23.L3.succ, ite'_f (lt_f (by omega)), List.drop_length]
      rfl
    | succ m ih =>
      intro i n a hm hn
      obtain ⟨n, rfl⟩ : ∃ j, n = j + 1 := ⟨n - 1, by omega⟩
      have hi : i < L.length := by omega
      have hx := List.getElem?_eq_getElem hi
      rw [F23.L3.succ, LL_len, ite'_t (lt_t hi), ite'_t (inR_t hi)]
      simp only [Int.toNat_natCast, cellL_at (LL_get' hx), List.getElem?_cons_zero, Option.bind_some, asL_s, bindL_s]
      rw [I1_len, next_i hi (m := L.length) (by omega), maxI_eq, ih (i + 1) n _ (by omega) (by omega), List.drop_eq_getElem_cons hi, List.foldl_cons]
  have := main L.length 0 k 0 (by omega) (by omega)
  rw [List.drop_zero] at this
  exact this
end Go.Proofs.Ytjfdcddjheandaa.Q

/-! NJc -/
namespace Go.Proofs.Ytjfdcddjheandaa.Q
open Go Ovi
variable {k : Nat}
theorem sz_atoms {xs : List Atom} : szD (.list 2 (A1 xs)) = xs.length + terms xs := by
  show (A1 xs).length + szR (A1 xs) = _
  rw [A1_len, szR_A1]
  rfl
theorem sz_rels {a : Ovi.Rows} : a.length ≤ szD (.list 3 a) := by
  show a.length ≤ a.length + szR a
  omega
theorem gather_len (V M : List Int) : (gather V M).length ≤ V.length := by
  unfold gather
  have := List.length_filter_le (fun b : List Int => decide (b ≠ [])) (V.map (gath V M))
  rw [List.length_map] at this
  exact this
theorem gather_short {V M b : List Int} (hb : b ∈ gather V M) : b.length ≤ V.length := by
  obtain ⟨h1, _⟩ := List.mem_filter.1 hb
  obtain ⟨i, _, rfl⟩ := List.mem_map.1 h1
  exact List.length_filter_le _ _
/-- both LargestBlockSize answer alike -/
theorem lbs {a : Ovi.Rows} (ha : Fit Rl (.list 3 a)) (xs : List Atom) (hI : ∀ x ∈ xs, ∀ z ∈ x.2, inI z) (hk : 2000000 ≤ k) (hs : terms xs + xs.length ≤ 1048576) (hal : a.length ≤ 1048576) :
    ∃ n, C (k + 10) 22 [.agg [.d (.list 3 a), .d (.list 2 (A1 xs))]] = io n ∧ C (k + 10) 23 [.agg [.d (.list 3 a), .d (.list 2 (A1 xs))]] = io n := by
  obtain ⟨b, hb1, hb2⟩ := instB ha xs hI hs hal
  obtain ⟨h37, h31⟩ := hb2 k hk
  cases b with
  | false =>
    have e24 : C (k + 9) 24 [.agg [.d (.list 3 a), .d (.list 2 (A1 xs))]] = some [(false, [.nil])] := by
      rw [F24.run, h31, bB, ite'_nf]
    have e25 : C (k + 9) 25 [.agg [.d (.list 3 a), .d (.list 2 (A1 xs))]] = some [(false, [.nil])] := by
      rw [F25.run, h37, bB, ite'_nf]
    have r0 : resO 26 1 1 false 1 [(false, [RL.nil])] 0 0 = some [] := rfl
    refine ⟨0, ?_, ?_⟩
    · rw [F22.run, e24]
      simp only [bindR_s, r0, bindL_s]
      exact mx22 [] (by simp) (by simp) (by omega)
    · rw [F23.run, e25]
      simp only [bindR_s, r0, bindL_s]
      exact mx23 [] (by simp) (by simp) (by omega)
  | true =>
    obtain ⟨h30, _⟩ := hb1 rfl
    have e24 : C (k + 9) 24 [.agg [.d (.list 3 a), .d (.list 2 (A1 xs))]] = some [(false, [.row 26 1 (LL (gather (nulls (vals xs)) (roundsM (nl xs) (nulls (vals xs)).length M0)))])] := by
      rw [F24.run, h31, bB, ite'_nt, c54 (k := k + 4) a xs hI (by omega) hs]
      simp only [bindR_s, resL_d, bindL_s]
      exact nb_spec a xs _ (nulls_in _) (nulls_short _) hI hk hs h30
    have e25 : C (k + 9) 25 [.agg [.d (.list 3 a), .d (.list 2 (A1 xs))]] = some [(false, [.row 26 1 (LL (sortLists (blocks (nl xs))))])] := by
      rw [F25.run, h37, bB, ite'_nt, A1_len]
      exact nb_impl xs hI hk hs h30
    have hbl := blocks_len (nl xs) []
    rw [nl_len, List.length_nil] at hbl
    have hbl : (blocks (nl xs)).length ≤ 30 := by unfold blocks; omega
    refine ⟨mostL (sortLists (blocks (nl xs))), ?_, ?_⟩
    · rw [F22.run, e24]
      simp only [bindR_s, resO_s, bindL_s]
      rw [← most_law]
      have hv := nulls_short (vals xs)
      exact mx22 _ (Nat.le_trans (gather_len _ _) hv) (fun b hb => by have := gather_short hb; omega) (by omega)
    · rw [F23.run, e25]
      simp only [bindR_s, resO_s, bindL_s]
      rw [LL_len]
      exact mx23 _ (by rw [sortLists_len]; omega) (fun b hb => by
        have := blocks_short (nl_in xs) b ((mem_sortLists _ _).1 hb)
        omega) (by omega)
def At : Ty := .list [.int .i64, .list [.int .i64]]
theorem law5 (hk : 3000000 ≤ k) {a b : Ovi.Rows} (h1 : Fit Rl (.list 3 a)) (h2 : Fit At (.list 2 b)) : C k 5 [.agg [.d (.list 3 a), .d (.list 2 b)]] = bo true := by
  obtain ⟨k, rfl⟩ : ∃ j, k = j + 11 := ⟨k - 11, by omega⟩
  rw [F5.run, c7 (k := k + 10) (by omega) h1 h2 (by omega) (by omega)]
  simp only [bindR_s, resI_s, bindI_s]
  rcases szT_cases 1048576 (szC [.list 3 a, .list 2 b]) with ⟨q1, e1⟩ | ⟨q1, e1⟩ <;> rw [e1]
  rotate_left
  · rw [ite'_t neg_t]; rfl
  have p1 := q1
  simp only [szC] at p1
  have z1 : szD (.list 3 a) ≤ 1048576 := by omega
  have z2 : szD (.list 2 b) ≤ 1048576 := by omega
  rw [ite'_f (neg_f (by omega)), c9 (k := k + 10) (by omega) h1 h2 z1 z2]
  simp only [bindR_s, F9x0, F9x1, bindL_s]
  obtain ⟨xs, rfl, hX⟩ := h2.atoms'
  have y2 := z2
  rw [sz_atoms] at y2
  obtain ⟨n, g1, g2⟩ := lbs (k := k) h1 xs (fun x hx => (hX x hx).2) (by omega) (by omega) (Nat.le_trans sz_rels z1)
  rw [g1, iB', g2, iB', ite'_f (by simp), c12 (k := k + 10) (by omega) h1 h2 z1 z2]
  rfl
end Go.Proofs.Ytjfdcddjheandaa.Q

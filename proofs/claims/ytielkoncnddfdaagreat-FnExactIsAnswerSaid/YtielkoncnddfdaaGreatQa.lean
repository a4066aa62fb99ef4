/-
Sorting rows of integers, removing repeats, repeating; the functions of IsAnswer as equations. No condition.
-/
import Derived.Test.YtielkoncnddfdaaGreatOb
import Derived.Shelf.SlSortCmp.Kit1
import Derived.Lib.SlicesCompact
import Derived.Test.YtielkoncnddfdaaGreatProg
import Derived.KernelRfl
set_option linter.unusedVariables false
set_option linter.unusedSimpArgs false
/-! Srf -/
namespace Ovi
open Go Go.Proofs Go.RowKit Go.Sort Go.Lib

/-! ### slices.SortFunc on rows of integer lists, under slices.Compare -/
def cmpL : List Int → List Int → Int
  | [], [] => 0
  | [], _ :: _ => -1
  | _ :: _, [] => 1
  | x :: xs, y :: ys => if x < y then -1 else if x > y then 1 else cmpL xs ys
def ltL (x y : List Int) : Bool := decide (cmpL x y < 0)
theorem ltL_iff : ∀ (x y : List Int), ltL x y = true ↔ x < y
  | [], [] => by simp [ltL, cmpL]
  | [], y :: ys => by simp [ltL, cmpL]
  | x :: xs, [] => by simp [ltL, cmpL]
  | x :: xs, y :: ys => by
    rw [List.cons_lt_cons_iff, ← ltL_iff xs ys]
    unfold ltL
    rw [show cmpL (x :: xs) (y :: ys) = if x < y then -1 else if x > y then 1 else cmpL xs ys from rfl]
    simp only [decide_eq_true_eq]
    by_cases h1 : x < y
    · simp [h1]
    · by_cases h2 : x > y
      · rw [if_neg h1, if_pos h2]
        constructor
        · intro h; omega
        · rintro (h | ⟨h, _⟩) <;> omega
      · have h3 : x = y := by omega
        rw [if_neg h1, if_neg h2]
        constructor
        · intro h; exact .inr ⟨h3, h⟩
        · rintro (h | ⟨_, h⟩)
          · omega
          · exact h
theorem ltL_f (x y : List Int) : ltL x y = false ↔ y ≤ x := by
  rw [← List.not_lt, ← ltL_iff, Bool.not_eq_true]
theorem swoL : SWO ltL where
  irrefl x := by rw [ltL_f]; exact List.le_refl _
  trans x y z h1 h2 := by rw [ltL_iff] at *; exact List.lt_trans h1 h2
  ntrans x y z h1 h2 := by rw [ltL_f] at *; exact List.le_trans h2 h1
theorem antiL (x y : List Int) (h1 : ltL x y = false) (h2 : ltL y x = false) : x = y := by
  rw [ltL_f] at h1 h2
  exact List.le_antisymm h2 h1
def sortLists (l : BL) : BL := l.mergeSort fun x y => !ltL y x
theorem mem_sortLists (l : BL) (b : List Int) : b ∈ sortLists l ↔ b ∈ l := by simp [sortLists]
theorem sortLists_len (l : BL) : (sortLists l).length = l.length := by simp [sortLists]
theorem srt_unique {l l' : BL} (hp : l'.Perm l) (hs : l'.Pairwise fun x y => ltL y x = false) : l' = sortLists l := by
  refine List.Perm.eq_of_pairwise (le := fun x y => (!ltL y x) = true) ?_ ?_ ?_ (hp.trans (List.mergeSort_perm _ _).symm)
  · intro a b _ _ h1 h2
    simp only [Bool.not_eq_true'] at h1 h2
    exact antiL a b h2 h1
  · exact hs.imp fun h => by rw [h]; rfl
  · refine List.pairwise_mergeSort ?_ ?_ _
    · intro a b c h1 h2
      simp only [Bool.not_eq_true'] at h1 h2 ⊢
      exact swoL.ntrans c b a h2 h1
    · intro a b
      cases h : ltL b a with
      | false => simp
      | true =>
        have : ltL a b = false := by
          rw [ltL_iff] at h
          rw [ltL_f]
          exact List.le_of_lt h
        simp [this]
def LL (l : BL) : Rows := l.map fun zs => [.list 1 (I1 zs)]
theorem LL_len (l : BL) : (LL l).length = l.length := by simp [LL]
theorem LL_get (l : BL) (i : Nat) : (LL l)[i]? = (l[i]?).map fun zs => [.list 1 (I1 zs)] := by simp [LL]
theorem LL_at {l : BL} {i : Nat} {zs : List Int} (h : l[i]? = some zs) : cellD (LL l) i 0 = some (.list 1 (I1 zs)) := by simp [cellD, LL_get, h]
theorem LL_cell {l : BL} {i c : Nat} {x : D} (h : cellD (LL l) i c = some x) : c = 0 ∧ ∃ zs, l[i]? = some zs ∧ x = .list 1 (I1 zs) := by
  obtain ⟨row, hr, hc⟩ := cellD_lt h
  rw [LL_get] at hr
  obtain ⟨zs, hz, rfl⟩ := Option.map_eq_some_iff.1 hr
  cases c with
  | zero => simp at hc; exact ⟨rfl, zs, hz, hc.symm⟩
  | succ c => simp at hc
theorem LL_rows (l : BL) : ∀ (i : Nat) (x : List D), (LL l)[i]? = some x → x.length = 1 := by
  intro i x h
  rw [LL_get] at h
  obtain ⟨z, _, rfl⟩ := Option.map_eq_some_iff.1 h
  rfl
def lists : Rows → Option BL
  | [] => some []
  | [.list 1 xs] :: r => (ints xs).bind fun zs => (lists r).bind fun l => some (zs :: l)
  | _ => none
theorem lists_LL (l : BL) : lists (LL l) = some l := by
  induction l with
  | nil => rfl
  | cons zs l ih =>
    show ((ints (I1 zs)).bind fun zs => (lists (LL l)).bind fun l => some (zs :: l)) = _
    rw [ih, ints_I1]
    rfl
theorem lists_some : ∀ {xs : Rows} {l : BL}, lists xs = some l → xs = LL l
  | [], l, h => by cases h; rfl
  | [.list 1 xs] :: r, l, h => by
    unfold lists at h
    obtain ⟨zs, h1, h⟩ := Option.bind_eq_some_iff.1 h
    obtain ⟨l', h2, h⟩ := Option.bind_eq_some_iff.1 h
    cases h
    rw [lists_some h2, ints_some h1]
    rfl
def sortFArg (g : Nat) : Args → Option (Nat × BL)
  | [.var 0 0, .d (.int .i64 e), .d (.list 1 xs), .d (.fn g' [])] => cond (Nat.beq g' g) ((lists xs).bind fun l => cond (Nat.ble l.length 1099511627776 && l.all fun z => Nat.ble z.length 1099511627776) (some (e.toNat, l)) none) none
  | _ => none
def sortFP (g : Nat) (args : Args) : Option Res := (sortFArg g args).bind fun p => some [(false, [.row p.1 1 (LL (sortLists p.2))])]
theorem sortFArg_isRaw {g : Nat} {args : Args} {p : Nat × BL} (h : sortFArg g args = some p) : ∃ e xs, args = [.var 0 0, .d (.int .i64 e), .d (.list 1 xs), .d (.fn g [])] := by
  unfold sortFArg at h
  split at h
  · rename_i e xs g'
    cases hb : Nat.beq g' g with
    | false => rw [hb] at h; cases h
    | true => exact ⟨e, xs, by rw [Nat.eq_of_beq_eq_true hb]⟩
  · cases h
theorem sortFArg_some {g : Nat} {k : IntKind} {e : Int} {sz : Nat} {xs : Rows} {rest : Args} {p : Nat × BL} (h : sortFArg g (rawTag :: .d (.int k e) :: .d (.list sz xs) :: rest) = some p) : sz = 1 ∧ rest = [.d (.fn g [])] ∧ xs = LL p.2 ∧ p.1 = e.toNat ∧ p.2.length ≤ 1099511627776 ∧ ∀ z ∈ p.2, z.length ≤ 1099511627776 := by
  obtain ⟨e1, xs1, heq⟩ := sortFArg_isRaw h
  simp only [rawTag, List.cons.injEq, AV.d.injEq, D.int.injEq, D.list.injEq, true_and] at heq
  obtain ⟨⟨rfl, rfl⟩, ⟨rfl, rfl⟩, rfl⟩ := heq
  simp only [sortFArg, rawTag, show Nat.beq g g = true from Nat.beq_refl g, cond_true] at h
  obtain ⟨l, hl, h⟩ := Option.bind_eq_some_iff.1 h
  cases hb : (Nat.ble l.length 1099511627776 && l.all fun z => Nat.ble z.length 1099511627776) with
  | false => rw [hb] at h; cases h
  | true =>
    rw [hb] at h
    cases h
    rw [Bool.and_eq_true, List.all_eq_true] at hb
    exact ⟨rfl, rfl, lists_some hl, rfl, Nat.le_of_ble_eq_true hb.1, fun z hz => Nat.le_of_ble_eq_true (hb.2 z hz)⟩
/-- a list of integers, laid in the blocks of S -/
def RI (w : World) (S : Nat → Prop) (u : Value) (zs : List Int) : Prop := ∃ A cap, u = .slice A zs.length cap ∧ zs.length ≤ cap ∧ ∀ (i : Nat) z, zs[i]? = some z → ∃ ad, A = some ad ∧ S ad.block ∧ w.cell? (ad.add i) = some (.int .i64 z)
section
variable {P : Program} {G : Gd} {w w' : World} {S T : Nat → Prop} {u : Value} {zs : List Int}
theorem RD.ri (h : RD w S T u (.list 1 (I1 zs))) : RI w S u zs := by
  generalize hxs : I1 zs = XS at h
  cases h with
  | list A cap sz xs g h1 h3 h4 h5 h6 =>
    subst hxs
    rw [I1_len] at h1
    refine ⟨A, cap, by rw [I1_len], h1, fun i z hz => ?_⟩
    obtain ⟨ad, e1, e2, e3⟩ := h4 i 0 _ (I1_at hz)
    have hr := h5 i 0 _ (I1_at hz)
    refine ⟨ad, e1, e2, ?_⟩
    rw [Nat.mul_one, Nat.add_zero] at e3
    rw [e3]
    generalize g i 0 = G at hr
    cases hr
    rfl
theorem RI.rd (h : RI w S u zs) : RD w S T u (.list 1 (I1 zs)) := by
  obtain ⟨A, cap, rfl, h1, h2⟩ := h
  have := RD.list (w := w) (S := S) (T := T) A cap 1 (I1 zs) (fun i _ => .int .i64 (zs.getD i 0)) (by rw [I1_len]; exact h1) (I1_rows zs) (fun i c x hx => by
    obtain ⟨rfl, z, hz, rfl⟩ := I1_cell hx
    obtain ⟨ad, e1, e2, e3⟩ := h2 i z hz
    refine ⟨ad, e1, e2, ?_⟩
    rw [Nat.mul_one, Nat.add_zero, e3, List.getD_eq_getElem?_getD, hz]
    rfl) (fun i c x hx => by
    obtain ⟨rfl, z, hz, rfl⟩ := I1_cell hx
    rw [List.getD_eq_getElem?_getD, hz]
    exact .int _ _) (fun i c x hx => by
    obtain ⟨rfl, z, hz, rfl⟩ := I1_cell hx
    rfl)
  rw [I1_len] at this
  exact this
theorem RI.stab (h : RI w S u zs) (hs : Stab S w w') : RI w' S u zs := by
  obtain ⟨A, cap, rfl, h1, h2⟩ := h
  refine ⟨A, cap, rfl, h1, fun i z hz => ?_⟩
  obtain ⟨ad, e1, e2, e3⟩ := h2 i z hz
  exact ⟨ad, e1, e2, by rw [← e3]; exact hs.cell (by rw [add_block]; exact e2)⟩
structure HdL (w : World) (S : Nat → Prop) where
  v : Value
  l : List Int
  h : RI w S v l
  b : l.length ≤ 1099511627776
def encH (h : HdL w S) : Value := h.v
def lstH (h : HdL w S) : List Int := h.l
instance : Inhabited (HdL w S) := ⟨⟨.slice none 0 0, [], ⟨none, 0, rfl, Nat.le_refl _, fun i z h => by simp at h⟩, by simp⟩⟩
def cmpH (x y : HdL w S) : Int := cmpL (lstH x) (lstH y)
theorem swoH : SWO (ltOf (cmpH (w := w) (S := S))) := ⟨fun x => swoL.irrefl _, fun x y z h1 h2 => swoL.trans _ _ _ h1 h2, fun x y z h1 h2 => swoL.ntrans _ _ _ h1 h2⟩
end
/-- what is asked of the comparison -/
def CmpC (P : Program) (g : FuncId) : Prop := ∀ (w : World) (S : Nat → Prop) (u v : Value) (xs ys : List Int), RI w S u xs → RI w S v ys → xs.length ≤ 1099511627776 → ys.length ≤ 1099511627776 →
  Calls P g #[u, v] w fun e w' => e = .returned (.int .i64 (cmpL xs ys)) ∧ ∃ q os, w' = grow (w.drewN q) os
/-- what the shelf promises of slices.SortFunc at rows of lists -/
structure SortFC (P : Program) (f g : FuncId) : Prop where
  known : Known P f
  run : ∀ (w : World) (S : Nat → Prop) (blk cap : Nat) (d : Array (HdL w S)), (∀ k, S k → k < w.heap.size) → ¬ S blk → Holds encH w blk 0 d → blk < w.heap.size → d.size < 4611686018427387904 →
    Calls P f #[.slice (some ⟨blk, 0, none⟩) d.size cap, .func (.func g) #[] #[]] w fun e w' => e = .returned (.tuple #[]) ∧ ∃ (d' : Array (HdL w S)) (n : Nat) (os : Array Obj), PermIn 0 d.size d d' ∧ SortedIn (ltOf cmpH) 0 d.size d' ∧ w' = sortWorld encH w blk 0 n d' os
  nil : ∀ (A : Option Addr) (w : World), Calls P f #[.slice A 0 0, .func (.func g) #[] #[]] w fun e w' => e = .returned (.tuple #[]) ∧ Below w.heap.size w w'
section
variable {P : Program} {G : Gd} {w : World} {S T : Nat → Prop} {b e cap : Nat} {α : Type} [Inhabited α] {enc : α → Value}
theorem heapS {n : Nat} {os : Array Obj} {cur : Array Value} {fr : Nat × Nat} (d : Array α) (hb : w.heap[b]? = some (.cells cur e fr)) :
    (sortWorld enc w b 0 n d os).heap[b]? = some (.cells (putCells enc 0 d cur) e fr) := by
  have hg : b < w.heap.size := (Array.getElem?_eq_some_iff.1 hb).1
  unfold sortWorld
  rw [heap_grow_old _ _ (by simpa using hg)]
  simp [putRow, mapBlock, Sort.ahead, Array.getElem?_modify, hb, onCells]
theorem heapO {n : Nat} {os : Array Obj} (d : Array α) {k : Nat} (hk : k < w.heap.size) (hne : k ≠ b) : (sortWorld enc w b 0 n d os).heap[k]? = w.heap[k]? := by
  unfold sortWorld
  rw [heap_grow_old _ _ (by simpa using hk)]
  simp [putRow, mapBlock, Sort.ahead, Array.getElem?_modify, Ne.symm hne]
theorem stabS {n : Nat} {os : Array Obj} (d : Array α) (hS : ∀ k, S k → k < w.heap.size) (hb : ¬ S b) : Stab S w (sortWorld enc w b 0 n d os) :=
  fun k hk => heapO d (hS k hk) fun h => hb (h ▸ hk)
end
theorem mkH {w : World} {S : Nat → Prop} {cur : Array Value} : ∀ (l : BL) (o : Nat), (∀ i zs, l[i]? = some zs → ∃ v, cur[o + i]? = some v ∧ RI w S v zs ∧ zs.length ≤ 1099511627776) → ∃ d : List (HdL w S), d.map lstH = l ∧ ∀ j x, d[j]? = some x → cur[o + j]? = some (encH x)
  | [], o, _ => ⟨[], rfl, fun j x h => by simp at h⟩
  | z :: l, o, h => by
    obtain ⟨d, h1, h2⟩ := mkH l (o + 1) fun i zs hz => by
      have := h (i + 1) zs (by simpa using hz)
      rwa [show o + (i + 1) = o + 1 + i by omega] at this
    obtain ⟨v, hv, hr, hzb⟩ := h 0 z rfl
    refine ⟨(⟨v, z, hr, hzb⟩ : HdL w S) :: d, by rw [List.map_cons, h1]; rfl, fun j x hx => ?_⟩
    cases j with
    | zero => cases hx; exact hv
    | succ j => rw [show o + (j + 1) = o + 1 + j by omega]; exact h2 j x (by simpa using hx)
theorem plain_raw' {P : Program} {G : Gd} {f : FuncId} {rest : Args} {r : Res} : PlainC P G f (.var 0 0 :: rest) r := by
  intro w S T vs hS hT hl
  obtain ⟨u, hu, ⟨cs, h⟩, _⟩ := hl.2 0 _ rfl
  cases h
theorem sortF_sound {P : Program} {G : Gd} {fs g : FuncId} (h : SortFC P fs g) {args : Args} {r : Res} (hr : sortFP g args = some r) : PlainC P G fs args r ∧ ∀ k e sz xs rest, args = rawTag :: .d (.int k e) :: .d (.list sz xs) :: rest → ∀ e' : Nat, e = e' → RawC P fs e' sz xs rest r := by
  obtain ⟨⟨e0, l⟩, hra, hr⟩ := Option.bind_eq_some_iff.1 hr
  cases hr
  refine ⟨?_, fun k e sz xs rest hargs e' he => ?_⟩
  · obtain ⟨_, _, rfl⟩ := sortFArg_isRaw hra
    exact plain_raw'
  · subst hargs
    obtain ⟨rfl, rfl, rfl, h4, hlen, hlz⟩ := sortFArg_some hra
    simp only at h4 hlen hlz
    subst he h4
    intro w S T mo u vs hS hT hrow hl
    have hvs : vs = #[.func (.func g) #[] #[]] := by
      obtain ⟨u0, hu0, hrd⟩ := hl.2 0 _ rfl
      have hrd : RD w S T u0 (.fn g []) := hrd
      have h1 : vs.size = 1 := hl.1
      have h2 : u0 = .func (.func g) #[] #[] := by
        generalize hc : ([] : Rows) = CS at hrd
        cases hrd with
        | fn f vs' caps g' k1 k4 k5 =>
          subst hc
          rw [Array.eq_empty_of_size_eq_zero k1]
      subst h2
      apply Array.ext_getElem?
      intro i
      cases i with
      | zero => rw [hu0]; rfl
      | succ i => rw [Array.getElem?_eq_none (by omega), Array.getElem?_eq_none (by simp)]
    subst hvs
    simp only [Int.toNat_natCast]
    have hsl := sortLists_len l
    cases mo with
    | none =>
      obtain ⟨_, ⟨_, A, rfl⟩, hn⟩ := hrow
      have hz : l = [] := by simpa [LL] using hn
      subst hz
      refine (h.nil A w).mono fun ex w' ⟨h1, h2⟩ => ⟨_, h1, h2, fun _ => ⟨by simp [LL, sortLists], rfl, ?_⟩⟩
      refine ⟨fun i x hx => by simp [LL, sortLists] at hx, ⟨by simp [LL, sortLists], A, rfl⟩, by simp [LL, sortLists]⟩
    | some b =>
      obtain ⟨_, ⟨cap, cur, rfl, hc, h1, h2, h3⟩, _, hnS, cur', hc', h5, h6⟩ := hrow
      rw [LL_len] at *
      rw [hc] at hc'
      cases hc'
      have hblk : b < w.heap.size := lt_of_blk hc
      obtain ⟨dl, hd1, hdl⟩ := mkH (w := w) (S := S) (cur := cur) l 0 fun i zs hz => by
        obtain ⟨_, v, hv, hrd⟩ := h6 i 0 _ (LL_at hz)
        rw [Nat.mul_one, Nat.add_zero] at hv
        exact ⟨v, by rw [Nat.zero_add]; exact hv, RD.ri hrd, hlz _ (List.mem_of_getElem? hz)⟩
      obtain ⟨d, rfl⟩ : ∃ d : Array (HdL w S), dl = d.toList := ⟨dl.toArray, rfl⟩
      have hd2 : Holds encH w b 0 d := by
        intro j hj
        rw [getElem!_pos d j hj]
        refine ⟨?_, by simp [World.frozen?, hc]⟩
        simp only [World.cell?, hc, Option.isSome_none, Bool.false_eq_true, if_false]
        exact hdl j _ (by simp [hj])
      have hds : d.size = l.length := by rw [← hd1]; simp
      have hcall := h.run w S b cap d hS hnS hd2 hblk (by omega)
      rw [hds] at hcall
      refine hcall.mono fun ex w' ⟨k1, d', n, os, ⟨p1, _, p3⟩, k3, k4⟩ => ?_
      subst k4
      have hds' : d'.size = l.length := by rw [p1, hds]
      have hext : ∀ (a : Array (HdL w S)) (m : Nat), a.size = m → a.extract 0 m = a := fun a m hm => by subst hm; exact Array.extract_size
      rw [hext d' _ hds', hext d _ hds] at p3
      have hys : d'.toList.map lstH = sortLists l := by
        refine srt_unique (by rw [← hd1]; exact p3.map _) ?_
        rw [List.pairwise_map, List.pairwise_iff_getElem]
        intro i j hi hj hij
        have hi' : i < d'.size := by simpa using hi
        have hj' : j < d'.size := by simpa using hj
        have := k3 i j (Nat.zero_le _) hij (by omega)
        rw [getElem!_pos d' j hj', getElem!_pos d' i hi'] at this
        exact this
      have hnew := heapS (enc := encH) (n := n) (os := os) d' hc
      have hcsz : (putCells encH 0 d' cur).size = cur.size := by simp [putCells]
      have hst := stabS (enc := encH) (n := n) (os := os) d' hS hnS
      refine ⟨_, k1, ⟨cur, _, hc, hcsz, rfl, rfl, rfl, by simp [sortWorld, grow, putRow, mapBlock, Sort.ahead, setBlk], fun k hk => ?_⟩, fun _ => ⟨by rw [LL_len, LL_len, hsl], rfl, LL_rows _, ?_, Nat.zero_le _, hnS, _, hnew, by rw [LL_len, hsl, hcsz]; omega, fun i c x hx => ?_⟩⟩
      · have hk : k < w.heap.size := by simpa using hk
        by_cases hkb : k = b
        · subst hkb
          rw [setBlk_at hblk, hnew]
        · rw [setBlk_ne hkb]
          exact heapO _ hk hkb
      · rw [LL_len, hsl]
        exact ⟨cap, _, rfl, hnew, h1, h2, by rw [hcsz]; omega⟩
      · obtain ⟨rfl, zs, hz, rfl⟩ := LL_cell hx
        have hi : i < d'.size := by
          have := (List.getElem?_eq_some_iff.1 hz).1
          omega
        refine ⟨rfl, encH d'[i], ?_, ?_⟩
        · have h5' : l.length * 1 ≤ cur.size := h5
          have hic : i < cur.size := by omega
          simp only [Nat.mul_one, Nat.add_zero, putCells, Array.getElem?_mapIdx]
          rw [Array.getElem?_eq_getElem hic]
          simp [hi]
        · have : lstH d'[i] = zs := by
            rw [← hys] at hz
            simpa [hi] using hz
          rw [← this]
          exact RI.rd (RI.stab d'[i].h hst)
theorem SortFC.ok {P : Program} {G : Gd} {f g : FuncId} (h : SortFC P f g) : PrimOk P G f (sortFP g) := ⟨h.known, (fun args r hr => (sortF_sound h hr).1), (fun k e sz xs rest r hr e' he => (sortF_sound (G := noG) h hr).2 k e sz xs rest rfl e' he)⟩
end Ovi

/-! Mt -/
/-! Matches of atoms in facts, rows of answers: plain lists alone. -/
namespace Ovi
open Go
/-- what it takes that terms are values -/
def fitS : List Int → List Int → List Int → Option (List Int)
  | t :: ts, v :: vs, b => if t < 0 then (if v = -1 - t then fitS ts vs b else none) else if b.getD t.toNat 0 = 10 then fitS ts vs (b.set t.toNat v) else if b.getD t.toNat 0 = v then fitS ts vs b else none
  | _, _, b => some b
theorem fitS_len : ∀ (ts vs b b' : List Int), fitS ts vs b = some b' → b'.length = b.length
  | [], _, b, b', h => by simp only [fitS] at h; cases h; rfl
  | t :: ts, [], b, b', h => by simp only [fitS] at h; cases h; rfl
  | t :: ts, v :: vs, b, b', h => by
    rw [fitS] at h
    split at h
    · split at h
      · exact fitS_len ts vs b b' h
      · cases h
    · split at h
      · rw [fitS_len ts vs _ b' h, List.length_set]
      · split at h
        · exact fitS_len ts vs b b' h
        · cases h
def fitA (x f : Atom) (b : List Int) : Option (List Int) := if x.1 = f.1 then fitS x.2 f.2 b else none
theorem fitA_len {x f : Atom} {b b' : List Int} (h : fitA x f b = some b') : b'.length = b.length := by
  unfold fitA at h
  split at h
  · exact fitS_len _ _ _ _ h
  · cases h
/-- the matches of the atoms that go on with a binding -/
def mats (fs : List Atom) : List Atom → List Int → BL
  | [], b => [b]
  | x :: xs, b => fs.flatMap fun f => ((fitA x f b).map (mats fs xs)).getD []
theorem mats_len (fs : List Atom) : ∀ (xs : List Atom) (b : List Int), (mats fs xs b).length ≤ fs.length ^ xs.length
  | [], b => by simp [mats]
  | x :: xs, b => by
    rw [mats, List.length_flatMap, List.length_cons, Nat.pow_succ]
    have h : ∀ gs : List Atom, (gs.map fun f => (((fitA x f b).map (mats fs xs)).getD []).length).sum ≤ fs.length ^ xs.length * gs.length := by
      intro gs
      induction gs with
      | nil => simp
      | cons g gs ih =>
        rw [List.map_cons, List.sum_cons, List.length_cons, Nat.mul_succ]
        have : (((fitA x g b).map (mats fs xs)).getD []).length ≤ fs.length ^ xs.length := by
          cases fitA x g b with
          | none => simp
          | some b' => simpa using mats_len fs xs b'
        omega
    exact h fs
theorem mats_mem (fs : List Atom) : ∀ (xs : List Atom) (b c : List Int), c ∈ mats fs xs b → c.length = b.length
  | [], b, c, h => by rw [mats, List.mem_singleton] at h; rw [h]
  | x :: xs, b, c, h => by
    rw [mats, List.mem_flatMap] at h
    obtain ⟨f, _, hc⟩ := h
    cases hf : fitA x f b with
    | none => rw [hf] at hc; simp at hc
    | some b' =>
      rw [hf] at hc
      rw [mats_mem fs xs b' c (by simpa using hc), fitA_len hf]
/-- the first of each -/
def ded : BL → BL → BL
  | out, [] => out
  | out, b :: bs => ded (if b ∈ out then out else out ++ [b]) bs
theorem ded_len : ∀ (bs out : BL), (ded out bs).length ≤ out.length + bs.length
  | [], out => by simp [ded]
  | b :: bs, out => by
    rw [ded]
    have := ded_len bs (if b ∈ out then out else out ++ [b])
    split at this
    · rename_i h; rw [if_pos h]; simp only [List.length_cons]; omega
    · rename_i h; rw [if_neg h]; simp only [List.length_cons, List.length_append, List.length_singleton, List.length_nil] at *; omega
theorem ded_mem : ∀ (bs out : BL) (c : List Int), c ∈ ded out bs ↔ c ∈ out ∨ c ∈ bs
  | [], out, c => by simp [ded]
  | b :: bs, out, c => by
    rw [ded, ded_mem bs]
    by_cases h : b ∈ out
    · rw [if_pos h, List.mem_cons]
      constructor
      · rintro (h' | h')
        · exact .inl h'
        · exact .inr (.inr h')
      · rintro (h' | rfl | h')
        · exact .inl h'
        · exact .inl h
        · exact .inr h'
    · rw [if_neg h, List.mem_append, List.mem_singleton, List.mem_cons]
      constructor
      · rintro ((h' | h') | h')
        · exact .inl h'
        · exact .inr (.inl h')
        · exact .inr (.inr h')
      · rintro (h' | h' | h')
        · exact .inl (.inl h')
        · exact .inl (.inr h')
        · exact .inr h'
def proj (q b : List Int) : List Int := q.map fun v => b.getD v.toNat 0
end Ovi

/-! Cmf -/
namespace Ovi
open Go Go.Proofs Go.RowKit Go.Sort Go.Lib

/-! ### slices.CompactFunc on rows of integer lists, under slices.Equal -/
theorem mem_compactL (zs : BL) (z : List Int) : z ∈ Lib.compact zs ↔ z ∈ zs := by
  unfold Lib.compact Lib.compactUpTo
  simp only [List.mem_map, List.mem_filter, List.mem_range]
  constructor
  · rintro ⟨i, ⟨hi, _⟩, rfl⟩
    rw [getElem!_pos _ i (by simpa using hi)]
    simp
  · intro h
    obtain ⟨i, hi, e⟩ := List.mem_iff_getElem.1 h
    have key : ∀ i, i < zs.length → ∃ j, (j < zs.length ∧ Lib.keeps zs.toArray j = true) ∧ zs.toArray[j]! = zs.toArray[i]! := by
      intro i
      induction i with
      | zero => intro h0; exact ⟨0, ⟨h0, by simp [Lib.keeps]⟩, rfl⟩
      | succ i ih =>
        intro h0
        by_cases hk : Lib.keeps zs.toArray (i + 1) = true
        · exact ⟨i + 1, ⟨h0, hk⟩, rfl⟩
        · have : zs.toArray[i + 1]! = zs.toArray[i]! := by
            simp only [Lib.keeps, decide_eq_true_eq, not_or, Nat.add_sub_cancel, Decidable.not_not] at hk
            exact hk.2
          obtain ⟨j, h1, h2⟩ := ih (by omega)
          exact ⟨j, h1, by rw [h2, this]⟩
    obtain ⟨j, h1, h2⟩ := key i hi
    refine ⟨j, h1, ?_⟩
    rw [h2, getElem!_pos _ i (by simpa using hi)]
    simpa using e
theorem compactL_len (zs : BL) : (Lib.compact zs).length ≤ zs.length := by
  unfold Lib.compact Lib.compactUpTo
  rw [List.length_map]
  exact Nat.le_trans (List.length_filter_le _ _) (by simp)
def compFP (g : Nat) (args : Args) : Option Res := (sortFArg g args).bind fun p => some [(false, [.row p.1 1 (LL (Lib.compact p.2))]), (true, [])]
/-- what is asked of the equality -/
def EqC (P : Program) (g : FuncId) : Prop := ∀ (w : World) (S : Nat → Prop) (u v : Value) (xs ys : List Int), RI w S u xs → RI w S v ys → xs.length ≤ 1099511627776 → ys.length ≤ 1099511627776 →
  Calls P g #[u, v] w fun e w' => e = .returned (.bool (decide (xs = ys))) ∧ ∃ q, w' = w.drewN q
structure CompFC (P : Program) (f g : FuncId) : Prop where
  known : Known P f
  run : ∀ (w : World) (S : Nat → Prop) (blk cap : Nat) (d : Array (HdL w S)), (∀ k, S k → k < w.heap.size) → ¬ S blk → Holds encH w blk 0 d → blk < w.heap.size → d.size < 4611686018427387904 → d.size ≤ cap →
    Calls P f #[.slice (some ⟨blk, 0, none⟩) d.size cap, .func (.func g) #[] #[]] w fun e w' => ∃ (dk : Array (HdL w S)) (q kk : Nat), e = .returned (.slice (some ⟨blk, 0, none⟩) kk cap) ∧ dk.size = d.size ∧ w' = putRow encH (Sort.ahead w q) blk 0 dk ∧ kk ≤ d.size ∧ (dk.toList.take kk).map lstH = Lib.compact (d.toList.map lstH)
  nil : ∀ (A : Option Addr) (cap : Nat) (w : World), Calls P f #[.slice A 0 cap, .func (.func g) #[] #[]] w fun e w' => e = .returned (.slice A 0 cap) ∧ w' = w
theorem fn_arg {w : World} {S T : Nat → Prop} {g : FuncId} {vs : Array Value} (hl : Leaves (AC w S T (fun _ => none) (fun _ => none)) vs [.d (.fn g [])]) : vs = #[.func (.func g) #[] #[]] := by
  obtain ⟨u0, hu0, hrd⟩ := hl.2 0 _ rfl
  have hrd : RD w S T u0 (.fn g []) := hrd
  have h1 : vs.size = 1 := hl.1
  have h2 : u0 = .func (.func g) #[] #[] := by
    generalize hc : ([] : Rows) = CS at hrd
    cases hrd with
    | fn f vs' caps g' k1 k4 k5 =>
      subst hc
      rw [Array.eq_empty_of_size_eq_zero k1]
  subst h2
  apply Array.ext_getElem?
  intro i
  cases i with
  | zero => rw [hu0]; rfl
  | succ i => rw [Array.getElem?_eq_none (by omega), Array.getElem?_eq_none (by simp)]
theorem compF_sound {P : Program} {G : Gd} {fs g : FuncId} (h : CompFC P fs g) {args : Args} {r : Res} (hr : compFP g args = some r) : PlainC P G fs args r ∧ ∀ k e sz xs rest, args = rawTag :: .d (.int k e) :: .d (.list sz xs) :: rest → ∀ e' : Nat, e = e' → RawC P fs e' sz xs rest r := by
  obtain ⟨⟨e0, l⟩, hra, hr⟩ := Option.bind_eq_some_iff.1 hr
  cases hr
  refine ⟨?_, fun k e sz xs rest hargs e' he => ?_⟩
  · obtain ⟨_, _, rfl⟩ := sortFArg_isRaw hra
    exact plain_raw'
  · subst hargs
    obtain ⟨rfl, rfl, rfl, h4, hlen, hlz⟩ := sortFArg_some hra
    simp only at h4 hlen hlz
    subst he h4
    intro w S T mo u vs hS hT hrow hl
    obtain rfl := fn_arg hl
    simp only [Int.toNat_natCast]
    have hsl := compactL_len l
    cases mo with
    | none =>
      obtain ⟨_, ⟨_, A, rfl⟩, hn⟩ := hrow
      have hz : l = [] := by simpa [LL] using hn
      subst hz
      refine (h.nil A 0 w).mono fun ex w' ⟨h1, h2⟩ => ⟨_, h1, by subst h2; exact Below.refl _ _, fun _ => ?_⟩
      exact ⟨fun i x hx => by simp [LL, Lib.compact, Lib.compactUpTo] at hx, ⟨by simp [LL, Lib.compact, Lib.compactUpTo], A, rfl⟩, by simp [LL, Lib.compact, Lib.compactUpTo]⟩
    | some b =>
      obtain ⟨_, ⟨cap, cur, rfl, hc, h1, h2, h3⟩, _, hnS, cur', hc', h5, h6⟩ := hrow
      rw [LL_len] at *
      rw [hc] at hc'
      cases hc'
      have hblk : b < w.heap.size := lt_of_blk hc
      obtain ⟨dl, hd1, hdl⟩ := mkH (w := w) (S := S) (cur := cur) l 0 fun i zs hz => by
        obtain ⟨_, v, hv, hrd⟩ := h6 i 0 _ (LL_at hz)
        rw [Nat.mul_one, Nat.add_zero] at hv
        exact ⟨v, by rw [Nat.zero_add]; exact hv, RD.ri hrd, hlz _ (List.mem_of_getElem? hz)⟩
      obtain ⟨d, rfl⟩ : ∃ d : Array (HdL w S), dl = d.toList := ⟨dl.toArray, rfl⟩
      have hd2 : Holds encH w b 0 d := by
        intro j hj
        rw [getElem!_pos d j hj]
        refine ⟨?_, by simp [World.frozen?, hc]⟩
        simp only [World.cell?, hc, Option.isSome_none, Bool.false_eq_true, if_false]
        exact hdl j _ (by simp [hj])
      have hds : d.size = l.length := by rw [← hd1]; simp
      have hcall := h.run w S b cap d hS hnS hd2 hblk (by omega) (by have h1 : l.length ≤ cap := h1; omega)
      rw [hds] at hcall
      refine hcall.mono fun ex w' ⟨dk, q, kk, k1, k2, k3, k4, k5⟩ => ?_
      rw [hd1] at k5
      have k3' : w' = sortWorld encH w b 0 q dk #[] := by rw [k3, sortWorld, grow_empty]
      subst k3'
      have hnew := heapS (enc := encH) (n := q) (os := #[]) dk hc
      have hcsz : (putCells encH 0 dk cur).size = cur.size := by simp [putCells]
      have hst := stabS (enc := encH) (n := q) (os := #[]) dk hS hnS
      have hkk : kk = (Lib.compact l).length := by
        rw [← k5]
        simp only [List.length_map, List.length_take, Array.length_toList]
        omega
      have h5' : l.length * 1 ≤ cur.size := h5
      refine ⟨_, k1, ⟨cur, _, hc, hcsz, rfl, rfl, rfl, by simp [sortWorld, grow, putRow, mapBlock, Sort.ahead, setBlk], fun k hk => ?_⟩, fun _ => ⟨LL_rows _, ?_, Nat.zero_le _, hnS, _, hnew, by rw [LL_len, hcsz]; omega, fun i c x hx => ?_⟩⟩
      · have hk : k < w.heap.size := by simpa using hk
        by_cases hkb : k = b
        · subst hkb
          rw [setBlk_at hblk, hnew]
        · rw [setBlk_ne hkb]
          exact heapO _ hk hkb
      · rw [LL_len, hkk]
        have h1 : l.length ≤ cap := h1
        exact ⟨cap, _, rfl, hnew, by omega, h2, by rw [hcsz]; omega⟩
      · obtain ⟨rfl, zs, hz, rfl⟩ := LL_cell hx
        have hi0 := (List.getElem?_eq_some_iff.1 hz).1
        have hi : i < dk.size := by omega
        refine ⟨rfl, encH dk[i], ?_, ?_⟩
        · have hic : i < cur.size := by omega
          simp only [Nat.mul_one, Nat.add_zero, putCells, Array.getElem?_mapIdx]
          rw [Array.getElem?_eq_getElem hic]
          simp [hi]
        · have : lstH dk[i] = zs := by
            rw [← k5, List.getElem?_map, List.getElem?_take_of_lt (by omega)] at hz
            simpa [hi] using hz
          rw [← this]
          exact RI.rd (RI.stab dk[i].h hst)
theorem CompFC.ok {P : Program} {G : Gd} {f g : FuncId} (h : CompFC P f g) : PrimOk P G f (compFP g) := ⟨h.known, (fun args r hr => (compF_sound h hr).1), (fun k e sz xs rest r hr e' he => (compF_sound (G := noG) h hr).2 k e sz xs rest rfl e' he)⟩
/-- slices.Repeat of one integer -/
def repP (e : Nat) : Args → Option Res
  | [.d (.list 1 [[.int .i64 z]]), .d (.int .i64 n)] => cond (decide (0 ≤ n) && decide (n ≤ 100)) (some [(false, [.row e 1 (I1 (List.replicate n.toNat z))])]) none
  | _ => none
end Ovi

/-! Rsp -/
namespace Ovi
open Go Go.Proofs Go.RowKit Go.Sort Go.Lib

/-! ### rows sorted, each once (a function of the program, on a row of the caller's); slices.Repeat of one integer -/
/-- what rowsSet leaves -/
def RsPost (w : World) (S : Nat → Prop) (blk cap : Nat) (d : Array (HdL w S)) (e : Ending) (w' : World) : Prop :=
  ∃ (d1 dk : Array (HdL w S)) (n q kk : Nat) (os : Array Obj), e = .returned (.slice (some ⟨blk, 0, none⟩) kk cap) ∧ d1.size = d.size ∧ dk.size = d.size ∧ w' = sortWorld encH (sortWorld encH w blk 0 n d1 os) blk 0 q dk #[] ∧ kk ≤ d.size ∧ (dk.toList.take kk).map lstH = Lib.compact (sortLists (d.toList.map lstH))
structure RsC (P : Program) (f : FuncId) : Prop where
  known : Known P f
  run : ∀ (w : World) (S : Nat → Prop) (blk cap : Nat) (d : Array (HdL w S)), (∀ k, S k → k < w.heap.size) → ¬ S blk → Holds encH w blk 0 d → blk < w.heap.size → d.size < 4611686018427387904 → d.size ≤ cap →
    Calls P f #[.slice (some ⟨blk, 0, none⟩) d.size cap] w (RsPost w S blk cap d)
  nil : ∀ (A : Option Addr) (w : World), Calls P f #[.slice A 0 0] w fun e w' => e = .returned (.slice A 0 0) ∧ Below w.heap.size w w'
def rowsArg : Args → Option (Nat × BL)
  | [.var 0 0, .d (.int .i64 e), .d (.list 1 xs)] => (lists xs).bind fun l => cond (Nat.ble l.length 1099511627776 && l.all fun z => Nat.ble z.length 1099511627776) (some (e.toNat, l)) none
  | _ => none
def rowsSetP (args : Args) : Option Res := (rowsArg args).bind fun p => some [(false, [.row p.1 1 (LL (Lib.compact (sortLists p.2)))]), (true, [])]
theorem rowsArg_isRaw {args : Args} {p : Nat × BL} (h : rowsArg args = some p) : ∃ e xs, args = [.var 0 0, .d (.int .i64 e), .d (.list 1 xs)] := by
  unfold rowsArg at h
  split at h
  · exact ⟨_, _, rfl⟩
  · cases h
theorem rowsArg_some {k : IntKind} {e : Int} {sz : Nat} {xs : Rows} {rest : Args} {p : Nat × BL} (h : rowsArg (rawTag :: .d (.int k e) :: .d (.list sz xs) :: rest) = some p) : sz = 1 ∧ rest = [] ∧ xs = LL p.2 ∧ p.1 = e.toNat ∧ p.2.length ≤ 1099511627776 ∧ ∀ z ∈ p.2, z.length ≤ 1099511627776 := by
  obtain ⟨e1, xs1, heq⟩ := rowsArg_isRaw h
  simp only [rawTag, List.cons.injEq, AV.d.injEq, D.int.injEq, D.list.injEq, true_and] at heq
  obtain ⟨⟨rfl, rfl⟩, ⟨rfl, rfl⟩, rfl⟩ := heq
  simp only [rowsArg, rawTag] at h
  obtain ⟨l, hl, h⟩ := Option.bind_eq_some_iff.1 h
  cases hb : (Nat.ble l.length 1099511627776 && l.all fun z => Nat.ble z.length 1099511627776) with
  | false => rw [hb] at h; cases h
  | true =>
    rw [hb] at h
    cases h
    rw [Bool.and_eq_true, List.all_eq_true] at hb
    exact ⟨rfl, rfl, lists_some hl, rfl, Nat.le_of_ble_eq_true hb.1, fun z hz => Nat.le_of_ble_eq_true (hb.2 z hz)⟩
theorem heapS_size {w : World} {α : Type} [Inhabited α] {enc : α → Value} {b n : Nat} {d : Array α} {os : Array Obj} : w.heap.size ≤ (sortWorld enc w b 0 n d os).heap.size := by
  simp only [sortWorld, grow, putRow, mapBlock, Sort.ahead, Array.size_append, Array.size_modify]
  omega
theorem rowsSet_sound {P : Program} {G : Gd} {fs : FuncId} (h : RsC P fs) {args : Args} {r : Res} (hr : rowsSetP args = some r) : PlainC P G fs args r ∧ ∀ k e sz xs rest, args = rawTag :: .d (.int k e) :: .d (.list sz xs) :: rest → ∀ e' : Nat, e = e' → RawC P fs e' sz xs rest r := by
  obtain ⟨⟨e0, l⟩, hra, hr⟩ := Option.bind_eq_some_iff.1 hr
  cases hr
  refine ⟨?_, fun k e sz xs rest hargs e' he => ?_⟩
  · obtain ⟨_, _, rfl⟩ := rowsArg_isRaw hra
    exact plain_raw'
  · subst hargs
    obtain ⟨rfl, rfl, rfl, h4, hlen, hlz⟩ := rowsArg_some hra
    simp only at h4 hlen hlz
    subst he h4
    intro w S T mo u vs hS hT hrow hl
    obtain rfl := leaves_nil hl
    simp only [Array.append_empty, Int.toNat_natCast]
    have hsl : (Lib.compact (sortLists l)).length ≤ l.length := by have := compactL_len (sortLists l); rw [sortLists_len] at this; exact this
    cases mo with
    | none =>
      obtain ⟨_, ⟨_, A, rfl⟩, hn⟩ := hrow
      have hz : l = [] := by simpa [LL] using hn
      subst hz
      refine (h.nil A w).mono fun ex w' ⟨h1, h2⟩ => ⟨_, h1, h2, fun _ => ?_⟩
      exact ⟨fun i x hx => by simp [LL, sortLists, Lib.compact, Lib.compactUpTo] at hx, ⟨by simp [LL, sortLists, Lib.compact, Lib.compactUpTo], A, rfl⟩, by simp [LL, sortLists, Lib.compact, Lib.compactUpTo]⟩
    | some b =>
      obtain ⟨_, ⟨cap, cur, rfl, hc, h1, h2, h3⟩, _, hnS, cur', hc', h5, h6⟩ := hrow
      rw [LL_len] at *
      rw [hc] at hc'
      cases hc'
      have hblk : b < w.heap.size := lt_of_blk hc
      obtain ⟨dl, hd1, hdl⟩ := mkH (w := w) (S := S) (cur := cur) l 0 fun i zs hz => by
        obtain ⟨_, v, hv, hrd⟩ := h6 i 0 _ (LL_at hz)
        rw [Nat.mul_one, Nat.add_zero] at hv
        exact ⟨v, by rw [Nat.zero_add]; exact hv, RD.ri hrd, hlz _ (List.mem_of_getElem? hz)⟩
      obtain ⟨d, rfl⟩ : ∃ d : Array (HdL w S), dl = d.toList := ⟨dl.toArray, rfl⟩
      have hd2 : Holds encH w b 0 d := by
        intro j hj
        rw [getElem!_pos d j hj]
        refine ⟨?_, by simp [World.frozen?, hc]⟩
        simp only [World.cell?, hc, Option.isSome_none, Bool.false_eq_true, if_false]
        exact hdl j _ (by simp [hj])
      have hds : d.size = l.length := by rw [← hd1]; simp
      have hcall := h.run w S b cap d hS hnS hd2 hblk (by omega) (by have h1 : l.length ≤ cap := h1; omega)
      rw [hds] at hcall
      refine hcall.mono fun ex w' ⟨d1, dk, n, q, kk, os, k1, k0, k2, k3, k4, k5⟩ => ?_
      rw [hd1] at k5
      subst k3
      have hnew1 := heapS (enc := encH) (n := n) (os := os) d1 hc
      have hnew := heapS (enc := encH) (n := q) (os := #[]) dk hnew1
      have hcsz : (putCells encH 0 dk (putCells encH 0 d1 cur)).size = cur.size := by simp [putCells]
      have hsz1 : w.heap.size ≤ (sortWorld encH w b 0 n d1 os).heap.size := heapS_size
      have hsz2 : (sortWorld encH w b 0 n d1 os).heap.size ≤ (sortWorld encH (sortWorld encH w b 0 n d1 os) b 0 q dk #[]).heap.size := heapS_size
      have hst1 := stabS (enc := encH) (n := n) (os := os) d1 hS hnS
      have hst2 := stabS (enc := encH) (w := sortWorld encH w b 0 n d1 os) (n := q) (os := #[]) dk (fun k hk => Nat.lt_of_lt_of_le (hS k hk) hsz1) hnS
      have hkk : kk = (Lib.compact (sortLists l)).length := by
        rw [← k5]
        simp only [List.length_map, List.length_take, Array.length_toList]
        omega
      have h5' : l.length * 1 ≤ cur.size := h5
      refine ⟨_, k1, ⟨cur, _, hc, hcsz, rfl, rfl, rfl, by simpa [setBlk] using Nat.le_trans hsz1 hsz2, fun k hk => ?_⟩, fun _ => ⟨LL_rows _, ?_, Nat.zero_le _, hnS, _, hnew, by rw [LL_len, hcsz]; omega, fun i c x hx => ?_⟩⟩
      · have hk : k < w.heap.size := by simpa using hk
        by_cases hkb : k = b
        · subst hkb
          rw [setBlk_at hblk, hnew]
        · rw [setBlk_ne hkb, heapO _ (Nat.lt_of_lt_of_le hk hsz1) hkb]
          exact heapO _ hk hkb
      · rw [LL_len, hkk]
        have h1 : l.length ≤ cap := h1
        exact ⟨cap, _, rfl, hnew, by omega, h2, by rw [hcsz]; omega⟩
      · obtain ⟨rfl, zs, hz, rfl⟩ := LL_cell hx
        have hi0 := (List.getElem?_eq_some_iff.1 hz).1
        have hi : i < dk.size := by omega
        refine ⟨rfl, encH dk[i], ?_, ?_⟩
        · have hic : i < (putCells encH 0 d1 cur).size := by simp only [putCells, Array.size_mapIdx]; omega
          rw [Nat.mul_one, Nat.add_zero]
          conv => lhs; rw [putCells]
          rw [Array.getElem?_mapIdx, Array.getElem?_eq_getElem hic]
          simp [hi]
        · have : lstH dk[i] = zs := by
            rw [← k5, List.getElem?_map, List.getElem?_take_of_lt (by omega)] at hz
            simpa [hi] using hz
          rw [← this]
          exact RI.rd (RI.stab dk[i].h (hst1.trans hst2))
theorem RsC.ok {P : Program} {G : Gd} {f : FuncId} (h : RsC P f) : PrimOk P G f rowsSetP := ⟨h.known, (fun args r hr => (rowsSet_sound h hr).1), (fun k e sz xs rest r hr e' he => (rowsSet_sound (G := noG) h hr).2 k e sz xs rest rfl e' he)⟩
/-- what is shown of slices.Repeat: five times ten -/
def ten5 : Array Value := #[.int .i64 10, .int .i64 10, .int .i64 10, .int .i64 10, .int .i64 10]
structure RepC (P : Program) (f : FuncId) (e : Nat) : Prop where
  known : Known P f
  run : ∀ (b o c : Nat) (w : World), w.cell? ⟨b, o, none⟩ = some (.int .i64 10) → b < w.heap.size →
    Calls P f #[.slice (some ⟨b, o, none⟩) 1 c, .int .i64 5] w fun ex w' => ex = .returned (.slice (some ⟨w.heap.size, 0, none⟩) 5 5) ∧ ∃ q, w' = (w.alloc (.cells ten5 e (0, 0))).drewN q
def rep5P (e : Nat) : Args → Option Res
  | [.d (.list 1 [[.int .i64 z]]), .d (.int .i64 n)] => cond (decide (z = 10) && decide (n = 5)) (some [(false, [.row e 1 (I1 [10, 10, 10, 10, 10])])]) none
  | _ => none
theorem rep_sound {P : Program} {G : Gd} {f : FuncId} {e : Nat} (h : RepC P f e) {args : Args} {r : Res} (hr : rep5P e args = some r) : PlainC P G f args r ∧ isRaw args = false := by
  unfold rep5P at hr
  split at hr
  · rename_i z n
    cases hb : (decide (z = 10) && decide (n = 5)) with
    | false => rw [hb] at hr; cases hr
    | true =>
      rw [hb] at hr
      cases hr
      rw [Bool.and_eq_true, decide_eq_true_eq, decide_eq_true_eq] at hb
      obtain ⟨rfl, rfl⟩ := hb
      refine ⟨?_, rfl⟩
      intro w S T vs hS hT hl _
      obtain ⟨u, v, rfl, hu, hv⟩ := jn_args hl
      cases hv
      have hri : RI w S u [10] := RD.ri hu
      obtain ⟨A, c, rfl, hc, hx⟩ := hri
      obtain ⟨ad, rfl, hSad, hcell⟩ := hx 0 10 rfl
      obtain ⟨b, o, spot⟩ := ad
      have hspot : spot = none := by simpa [Addr.add] using World.cell?_spot hcell
      subst hspot
      have hcell' : w.cell? ⟨b, o, none⟩ = some (.int .i64 10) := by rw [add_at] at hcell; exact hcell
      refine (h.run b o c w hcell' (hS b hSad)).mono fun ex w' ⟨k1, q, k2⟩ => ?_
      subst k2
      have hg : ((w.alloc (.cells ten5 e (0, 0))).drewN q).heap[w.heap.size]? = some (.cells ten5 e (0, 0)) := by
        show (w.heap.push _)[w.heap.size]? = _
        simp
      have hrow : rowC ((w.alloc (.cells ten5 e (0, 0))).drewN q) S T w.heap.size (some w.heap.size) e 1 (I1 [10, 10, 10, 10, 10]) (.slice (some ⟨w.heap.size, 0, none⟩) 5 5) := by
        refine ⟨I1_rows _, ⟨5, ten5, rfl, hg, by simp [I1], by unfold maxLen; omega, rfl⟩, Nat.le_refl _, fun h => Nat.lt_irrefl _ (hS _ h), ten5, hg, by simp [I1, ten5], fun i c' x hx => ?_⟩
        obtain ⟨rfl, z, hz, rfl⟩ := I1_cell hx
        refine ⟨rfl, .int .i64 z, ?_, .int _ _⟩
        have hi := (List.getElem?_eq_some_iff.1 hz).1
        simp only [List.length_cons, List.length_nil] at hi
        rw [Nat.mul_one, Nat.add_zero]
        match i, hi, hz with
        | 0, _, hz => cases hz; rfl
        | 1, _, hz => cases hz; rfl
        | 2, _, hz => cases hz; rfl
        | 3, _, hz => cases hz; rfl
        | 4, _, hz => cases hz; rfl
        | i + 5, hi, _ => omega
      have hbel : Below w.heap.size w ((w.alloc (.cells ten5 e (0, 0))).drewN q) := by
        have := (Below.refl w.heap.size w).alloc (Nat.le_refl _) (.cells ten5 e (0, 0))
        exact ⟨this.os, this.tape, this.output, this.size, this.block⟩
      refine ⟨_, S, fun _ _ => some w.heap.size, k1, hbel, fun _ h => h, fun _ h => .inl h, ⟨[_], rfl, rfl, fun i x hx => ?_⟩, fun i j i' j' b h1 h2 _ _ => ?_⟩
      · cases i with
        | zero => cases hx; exact ⟨_, rfl, _, rfl, hrow⟩
        | succ i => simp at hx
      · have key : ∀ i j, isRow (leafAt [(false, [.row e 1 (I1 [10, 10, 10, 10, 10])])] i j) = true → i = 0 ∧ j = 0 := by
          intro i j hij
          cases i with
          | zero =>
            cases j with
            | zero => exact ⟨rfl, rfl⟩
            | succ j => simp [leafAt, isRow] at hij
          | succ i => simp [leafAt, isRow] at hij
        obtain ⟨rfl, rfl⟩ := key i j h1
        obtain ⟨rfl, rfl⟩ := key i' j' h2
        exact ⟨rfl, rfl⟩
  · cases hr
theorem RepC.ok {P : Program} {G : Gd} {f : FuncId} {e : Nat} (h : RepC P f e) : PrimOk P G f (rep5P e) := ⟨h.known, (fun args r hr => (rep_sound h hr).1), (fun k e0 sz xs rest r hr e' he => by have := (rep_sound (G := noG) h hr).2; cases this)⟩
end Ovi

/-! KB -/
namespace Go.Proofs.YtielkoncnddfdaaGreat.Q
open Go Ovi
noncomputable abbrev P := Tryz.prog
def sg : FuncId → Sig := fun f => match f with
  | 3 => [(false, [.bool])]
  | 4 => [(false, [.bool])]
  | 5 => [(false, [.int .i64])]
  | 6 => [(false, [.int .i64])]
  | 7 => [(false, [.bool])]
  | 8 => [(true, [.own 70 3, .own 81 2])]
  | 9 => [(true, [.own 3 1, .own 83 2])]
  | 10 => [(false, [.own 3 1])]
  | 11 => [(false, [.bool])]
  | 12 => [(false, [.bool])]
  | 13 => [(false, [.bool])]
  | 14 => [(false, [.bool])]
  | 15 => [(false, [.int .i64])]
  | 16 => [(false, [.bool])]
  | 17 => [(false, [.own 70 3])]
  | 18 => [(false, [.bool])]
  | 19 => [(false, [.bool])]
  | 20 => [(false, [.int .i64])]
  | 21 => [(false, [.int .i64])]
  | 22 => [(false, [.int .i64])]
  | 23 => [(false, [.ro 1])]
  | 24 => [(false, [.int .i64])]
  | 25 => [(false, [.own 81 2])]
  | 26 => [(false, [.own 83 2])]
  | 27 => [(false, [.bool])]
  | 28 => [(false, [.own 26 1])]
  | 29 => [(false, [.bool])]
  | 30 => [(false, [.bool])]
  | 31 => [(false, [.int .i64])]
  | 32 => [(true, [.own 70 3, .own 81 2]), (false, [.bool])]
  | 33 => [(false, [.bool])]
  | 34 => [(false, [.int .i64])]
  | 35 => [(true, [.str, .int .i64, .bool])]
  | 36 => [(true, [.own 70 3, .own 81 2]), (false, [.bool])]
  | 37 => [(false, [.bool])]
  | 38 => [(false, [.int .i64])]
  | 39 => [(false, [.bool])]
  | 40 => [(false, [.int .i64])]
  | 41 => [(false, [.int .i64])]
  | 42 => [(false, [.own 26 1])]
  | 43 => [(false, [.ro 1])]
  | 44 => [(true, [.int .i64, .own 3 1])]
  | 45 => [(true, [.int .i64, .own 3 1])]
  | 46 => [(false, [.bool])]
  | 47 => [(false, [.bool])]
  | 48 => [(false, [.bool])]
  | 49 => [(false, [.own 26 1])]
  | 50 => [(false, [.bool])]
  | 51 => [(false, [.bool])]
  | 52 => [(false, [.bool])]
  | 53 => [(true, [.int .i64, .own 3 1]), (false, [.bool])]
  | 54 => [(true, [.ro 3, .ro 2])]
  | 55 => [(false, [.bool])]
  | 56 => [(true, [.own 70 3, .own 81 2])]
  | 57 => [(false, [.ro 1])]
  | 58 => [(false, [.bool])]
  | 59 => [(false, [.bool])]
  | 60 => [(false, [.bool])]
  | 61 => [(true, [.int .i64, .own 3 1]), (false, [.bool])]
  | 62 => [(true, [.own 70 3, .own 81 2])]
  | 63 => [(true, []), (true, [])]
  | 64 => [(false, [.bool])]
  | 65 => [(false, [.own 3 1])]
  | 66 => [(false, [.bool])]
  | 67 => [(false, [.bool])]
  | 68 => [(false, [.bool])]
  | 69 => [(false, [.bool])]
  | 70 => [(false, [.bool])]
  | 71 => [(false, [.own 26 1])]
  | 72 => [(false, [.own 3 1])]
  | 73 => [(false, [.int .i64])]
  | 74 => [(false, [.own 26 1])]
  | 75 => [(true, []), (true, [])]
  | 76 => [(false, [.bool])]
  | 77 => [(false, [.int .i64])]
  | 78 => [(false, [.int .i64])]
  | 79 => [(true, [.int .i64, .own 3 1])]
  | 80 => [(false, [.bool])]
  | 81 => [(false, [.ro 1])]
  | 82 => [(false, [.bool])]
  | 83 => [(false, [.ro 1])]
  | 84 => [(false, [.bool])]
  | 85 => [(false, [.own 70 3])]
  | 86 => [(false, [.own 81 2])]
  | 87 => [(true, [])]
  | 88 => [(false, [.int .i64])]
  | 89 => [(true, []), (true, [])]
  | 90 => [(false, [.bool])]
  | 91 => [(false, [.bool])]
  | 92 => [(false, [.bool])]
  | 93 => [(false, [.own 3 1])]
  | 94 => [(true, [])]
  | 95 => [(true, []), (true, [])]
  | 96 => [(false, [.bool])]
  | 97 => [(false, [.bool])]
  | 98 => [(false, [.bool])]
  | 99 => [(false, [.bool])]
  | 100 => [(false, [.int .i64])]
  | 101 => [(false, [.int .i64])]
  | 102 => [(false, [.own 3 1]), (false, [.bool])]
  | 103 => [(false, [.int .i64])]
  | 104 => [(false, [.bool])]
  | 105 => [(false, [.own 26 1])]
  | 106 => [(false, [.own 3 1])]
  | 107 => [(true, [])]
  | 108 => [(false, [.int .i64])]
  | 109 => [(true, []), (true, [])]
  | 110 => [(false, [.int .i64]), (false, [.bool])]
  | 111 => [(false, [.bool])]
  | 112 => [(true, [.int .i64, .own 3 1])]
  | 113 => []
  | 114 => [(false, [.int .i64])]
  | 115 => [(false, [.int .i64])]
  | 116 => [(false, [.int .i64])]
  | 117 => [(false, [.bool])]
  | 118 => [(false, [.bool])]
  | 119 => [(false, [.own 3 1])]
  | 120 => []
  | 121 => [(false, [.int .i64])]
  | 122 => [(false, [.bool])]
  | 123 => [(false, [.own 3 1]), (false, [.bool])]
  | 124 => [(false, [.own 3 1])]
  | 125 => []
  | 126 => [(false, [.own 3 1])]
  | 127 => []
  | 128 => []
  | 129 => []
  | 130 => [(false, [.int .i64]), (false, [.int .i64])]
  | 131 => []
  | 132 => [(false, [.bool])]
  | 133 => [(false, [.int .i64])]
  | 134 => [(false, [.int .i64]), (false, [.bool])]
  | 135 => [(false, [.int .i64])]
  | 136 => [(false, [.int .i64])]
  | 137 => [(false, [.bool])]
  | 138 => [(false, [.int .i64]), (false, [.bool])]
  | 139 => []
  | 140 => []
  | 141 => []
  | 142 => [(false, [.int .i64]), (false, [.int .i64])]
  | 143 => []
  | 144 => [(false, [.bool])]
  | 145 => [(false, [.bool])]
  | 146 => [(false, [.int .i64])]
  | 147 => [(false, [.int .i64]), (false, [.bool])]
  | 148 => [(false, [.int .u64]), (false, [.int .u64])]
  | 149 => []
  | 150 => []
  | 151 => []
  | 152 => [(false, [.int .i64]), (false, [.int .i64])]
  | 153 => []
  | 154 => [(false, [.bool])]
  | 155 => [(false, [.int .i64])]
  | 156 => [(false, [.int .i64]), (false, [.bool])]
  | 157 => []
  | 158 => [(false, [.int .u64])]
  | 159 => [(false, [.int .u64])]
  | 160 => [(false, [.int .i64])]
  | 161 => [(false, [.int .i64])]
  | 162 => []
  | 163 => [(false, [.int .i64])]
  | 164 => [(false, [.int .i64])]
  | 165 => [(false, [.int .u32]), (false, [.int .u32])]
  | 166 => [(false, [.int .u64]), (false, [.int .u64])]
  | 167 => []
  | 168 => [(false, [.int .i64])]
  | 169 => [(false, [.int .i64])]
  | 170 => [(false, [.int .i64]), (false, [.int .i64])]
  | 171 => [(false, [.int .i64]), (false, [.int .i64])]
  | 172 => [(false, [.int .i64]), (false, [.int .i64])]
  | _ => []
def lp : FuncId → Nat → LoopHint := fun f l => match f, l with
  | 7, 3 => [(2, .same), (7, .same), (8, .same)]
  | 10, 3 => [(0, .same), (3, .own 3 1), (4, .same)]
  | 14, 4 => [(0, .same), (1, .same), (5, .same)]
  | 15, 5 => [(0, .same), (1, .same), (5, .same)]
  | 16, 6 => [(4, .box [.same, .same]), (5, .box [.same, .same]), (7, .box [.own 70 3, .own 81 2]), (9, .own 3 1), (10, .same)]
  | 17, 3 => [(0, .same), (3, .own 70 3), (4, .same)]
  | 18, 6 => [(5, .box [.same, .same]), (7, .box [.own 70 3, .own 81 2]), (9, .own 3 1), (37, .same), (38, .same), (39, .same)]
  | 19, 4 => [(0, .same), (1, .same), (5, .same)]
  | 20, 5 => [(0, .same), (1, .same), (5, .same)]
  | 22, 5 => [(0, .same), (1, .same), (5, .same)]
  | 23, 6 => [(3, .box [.same, .same]), (5, .data 1), (6, .own 26 1), (7, .same)]
  | 23, 10 => [(3, .box [.same, .same]), (5, .data 1), (6, .own 26 1), (7, .same), (8, .own 3 1), (9, .same)]
  | 24, 2 => [(0, .same), (1, .same), (5, .same)]
  | 25, 3 => [(0, .same), (3, .own 81 2), (4, .same)]
  | 26, 3 => [(0, .same), (3, .own 83 2), (4, .same)]
  | 29, 4 => [(0, .same), (1, .same), (5, .same)]
  | 30, 4 => [(0, .same), (1, .same), (5, .same)]
  | 32, 6 => [(3, .box [.same, .same]), (4, .box [.own 70 3, .own 81 2]), (6, .box [.data 3, .data 2]), (7, .own 3 1), (8, .same)]
  | 32, 10 => [(3, .box [.same, .same]), (4, .box [.own 70 3, .own 81 2]), (6, .box [.data 3, .data 2]), (7, .own 3 1), (9, .same)]
  | 33, 3 => [(0, .same), (3, .box [.same, .same]), (5, .same), (6, .same)]
  | 33, 8 => [(3, .box [.same, .same]), (5, .same), (7, .same)]
  | 36, 5 => [(0, .same), (3, .box [.same, .same]), (4, .box [.own 70 3, .own 81 2]), (6, .own 3 1), (7, .own 81 2), (21, .same)]
  | 36, 10 => [(0, .same), (4, .box [.own 70 3, .own 81 2]), (6, .own 3 1), (7, .own 81 2), (31, .same), (32, .same), (33, .same)]
  | 42, 6 => [(5, .own 26 1), (6, .own 26 1), (7, .same)]
  | 42, 10 => [(5, .own 26 1), (6, .own 26 1), (7, .same), (8, .same), (9, .same)]
  | 43, 2 => [(0, .same), (1, .same), (5, .same)]
  | 48, 4 => [(0, .same), (1, .same), (12, .same), (13, .same)]
  | 49, 3 => [(2, .same), (4, .box [.same, .same]), (7, .own 26 1), (17, .own 26 1), (18, .same), (19, .same)]
  | 49, 8 => [(2, .same), (4, .box [.same, .same]), (7, .own 26 1), (9, .same), (10, .own 3 1), (17, .own 26 1), (18, .same), (19, .same), (29, .same), (30, .same), (31, .same)]
  | 53, 3 => [(1, .same), (2, .box [.same, .same]), (4, .box [.same, .own 3 1]), (6, .box [.same, .own 3 1]), (7, .same)]
  | 54, 4 => [(2, .box [.same, .same]), (3, .box [.same, .same]), (4, .box [.data 3, .data 2]), (5, .same)]
  | 55, 2 => [(1, .box [.same, .same]), (3, .same)]
  | 56, 3 => [(1, .box [.same, .same]), (2, .box [.own 70 3, .own 81 2]), (3, .box [.own 70 3, .own 81 2]), (4, .same)]
  | 57, 3 => [(0, .same), (3, .data 1), (4, .same)]
  | 57, 6 => [(0, .same), (3, .data 1), (4, .same), (5, .same)]
  | 58, 4 => [(3, .box [.same, .same]), (5, .same)]
  | 59, 2 => [(0, .same), (1, .same), (5, .same)]
  | 61, 3 => [(1, .same), (4, .box [.same, .own 3 1]), (6, .box [.same, .own 3 1]), (14, .same), (15, .same), (16, .same)]
  | 64, 4 => [(1, .box [.same, .same]), (16, .same), (17, .same), (18, .same)]
  | 65, 3 => [(3, .own 3 1), (9, .same), (10, .same), (11, .same)]
  | 65, 6 => [(3, .own 3 1), (9, .same), (10, .same), (11, .same), (16, .data 1), (17, .same), (18, .same)]
  | 70, 2 => [(1, .same), (2, .box [.same, .same]), (5, .same)]
  | 71, 5 => [(1, .same), (2, .same), (3, .same), (4, .box [.same, .same]), (9, .own 26 1), (10, .same)]
  | 72, 2 => [(1, .own 3 1)]
  | 73, 2 => [(0, .same), (1, .same), (7, .same), (8, .same)]
  | 74, 5 => [(5, .own 26 1), (18, .own 26 1), (19, .same), (20, .same)]
  | 77, 2 => [(2, .box [.same, .same]), (3, .box [.same, .same]), (5, .same)]
  | 80, 4 => [(3, .box [.same, .same]), (5, .same)]
  | 81, 3 => [(1, .box [.same, .same]), (3, .data 1), (4, .same)]
  | 82, 2 => [(0, .same), (3, .same)]
  | 83, 2 => [(0, .same), (1, .same), (5, .same)]
  | 86, 3 => [(3, .own 81 2), (7, .same), (8, .same), (9, .same)]
  | 89, 4 => [(0, .same), (1, .same), (5, .same)]
  | 89, 9 => [(0, .same), (1, .same), (5, .same), (6, .same), (7, .same)]
  | 91, 2 => [(0, .same), (5, .same), (6, .same), (7, .same)]
  | 95, 4 => [(0, .same), (3, .same)]
  | 95, 9 => [(0, .same), (3, .same), (4, .same), (5, .same)]
  | 100, 2 => [(0, .same), (1, .same), (7, .same), (8, .same)]
  | 101, 2 => [(0, .same), (1, .same), (7, .same), (8, .same)]
  | 102, 5 => [(3, .box [.same, .same]), (4, .box [.same, .same]), (8, .own 3 1), (9, .same)]
  | 105, 5 => [(0, .same), (1, .same), (2, .same), (7, .own 26 1), (18, .same), (19, .same), (20, .same)]
  | 108, 2 => [(0, .same), (1, .same), (9, .same), (10, .same), (11, .same)]
  | 109, 4 => [(0, .same), (1, .same), (5, .same)]
  | 109, 9 => [(0, .same), (1, .same), (5, .same), (6, .same), (7, .same)]
  | 113, 2 => [(0, .same), (1, .same), (2, .same), (3, .same), (4, .same), (10, .same), (11, .same)]
  | 115, 3 => [(3, .same), (6, .same), (7, .same), (8, .same)]
  | 119, 3 => [(3, .own 3 1), (9, .same), (10, .same), (11, .same)]
  | 120, 2 => [(0, .same), (1, .same), (2, .same), (3, .same), (8, .same), (9, .same)]
  | 121, 2 => [(0, .same), (1, .same), (7, .same), (8, .same)]
  | 123, 5 => [(5, .box [.same, .same]), (8, .own 3 1), (20, .same), (21, .same), (22, .same)]
  | 124, 8 => [(7, .own 3 1), (8, .same)]
  | 125, 2 => [(0, .same), (1, .same), (2, .same), (3, .same), (4, .same), (10, .same), (11, .same)]
  | 127, 1 => [(0, .same), (1, .same), (2, .same), (3, .same), (8, .same)]
  | 127, 4 => [(0, .same), (1, .same), (2, .same), (3, .same), (8, .same), (9, .same)]
  | 128, 4 => [(0, .same), (3, .same), (8, .same), (9, .same), (10, .same), (11, .same)]
  | 128, 8 => [(0, .same), (3, .same), (8, .same), (9, .same), (12, .same)]
  | 129, 5 => [(0, .same), (1, .same), (8, .same), (9, .box [.same]), (10, .same), (11, .same)]
  | 131, 2 => [(0, .same), (8, .same), (9, .same)]
  | 132, 3 => [(0, .same), (1, .same), (2, .same), (3, .same), (9, .same), (10, .same)]
  | 132, 5 => [(0, .same), (1, .same), (2, .same), (3, .same), (9, .same), (10, .same)]
  | 132, 14 => [(0, .same), (1, .same), (2, .same), (3, .same), (9, .same), (10, .same), (11, .same)]
  | 132, 20 => [(0, .same), (1, .same), (2, .same), (3, .same), (9, .same), (10, .same), (12, .same)]
  | 133, 3 => [(0, .same), (1, .same), (4, .same), (11, .same), (12, .same)]
  | 133, 5 => [(0, .same), (1, .same), (4, .same), (11, .same), (12, .same)]
  | 134, 3 => [(0, .same), (1, .same), (4, .same), (12, .same), (13, .same)]
  | 134, 5 => [(0, .same), (1, .same), (4, .same), (12, .same), (13, .same)]
  | 134, 13 => [(0, .same), (1, .same), (4, .same), (12, .same), (13, .same)]
  | 134, 15 => [(0, .same), (1, .same), (4, .same), (12, .same), (13, .same)]
  | 139, 1 => [(0, .same), (1, .same), (2, .same), (6, .same)]
  | 139, 4 => [(0, .same), (1, .same), (2, .same), (6, .same), (7, .same)]
  | 140, 4 => [(0, .same), (6, .same), (7, .same), (8, .same), (9, .same)]
  | 140, 8 => [(0, .same), (6, .same), (7, .same), (10, .same)]
  | 141, 5 => [(0, .same), (1, .same), (6, .same), (7, .box [.same]), (8, .same), (9, .same)]
  | 143, 2 => [(0, .same), (6, .same), (7, .same)]
  | 144, 3 => [(0, .same), (1, .same), (2, .same), (7, .same), (8, .same)]
  | 144, 5 => [(0, .same), (1, .same), (2, .same), (7, .same), (8, .same)]
  | 144, 14 => [(0, .same), (1, .same), (2, .same), (7, .same), (8, .same), (9, .same)]
  | 144, 20 => [(0, .same), (1, .same), (2, .same), (7, .same), (8, .same), (10, .same)]
  | 146, 3 => [(0, .same), (1, .same), (9, .same), (10, .same)]
  | 146, 5 => [(0, .same), (1, .same), (9, .same), (10, .same)]
  | 147, 3 => [(0, .same), (1, .same), (10, .same), (11, .same)]
  | 147, 5 => [(0, .same), (1, .same), (10, .same), (11, .same)]
  | 147, 13 => [(0, .same), (1, .same), (10, .same), (11, .same)]
  | 147, 15 => [(0, .same), (1, .same), (10, .same), (11, .same)]
  | 149, 1 => [(0, .same), (1, .same), (2, .same), (3, .same), (8, .same)]
  | 149, 4 => [(0, .same), (1, .same), (2, .same), (3, .same), (8, .same), (9, .same)]
  | 150, 4 => [(0, .same), (3, .same), (8, .same), (9, .same), (10, .same), (11, .same)]
  | 150, 8 => [(0, .same), (3, .same), (8, .same), (9, .same), (12, .same)]
  | 151, 5 => [(0, .same), (1, .same), (8, .same), (9, .box [.same]), (10, .same), (11, .same)]
  | 153, 2 => [(0, .same), (8, .same), (9, .same)]
  | 154, 3 => [(0, .same), (1, .same), (2, .same), (3, .same), (9, .same), (10, .same)]
  | 154, 5 => [(0, .same), (1, .same), (2, .same), (3, .same), (9, .same), (10, .same)]
  | 154, 14 => [(0, .same), (1, .same), (2, .same), (3, .same), (9, .same), (10, .same), (11, .same)]
  | 154, 20 => [(0, .same), (1, .same), (2, .same), (3, .same), (9, .same), (10, .same), (12, .same)]
  | 155, 3 => [(0, .same), (1, .same), (4, .same), (11, .same), (12, .same)]
  | 155, 5 => [(0, .same), (1, .same), (4, .same), (11, .same), (12, .same)]
  | 156, 3 => [(0, .same), (1, .same), (4, .same), (12, .same), (13, .same)]
  | 156, 5 => [(0, .same), (1, .same), (4, .same), (12, .same), (13, .same)]
  | 156, 13 => [(0, .same), (1, .same), (4, .same), (12, .same), (13, .same)]
  | 156, 15 => [(0, .same), (1, .same), (4, .same), (12, .same), (13, .same)]
  | 157, 1 => [(0, .same), (2, .same), (3, .same), (4, .same), (10, .same)]
  | 162, 1 => [(0, .same), (2, .same), (3, .same), (8, .same)]
  | 167, 1 => [(0, .same), (2, .same), (3, .same), (4, .same), (10, .same)]
  | _, _ => []
def hs : Hints := { sig := sg, loops := lp, joins := fun _ _ => none }

def prim : FuncId → Option (Args → Option Res) := prims [(94, sortP), (95, compactP), (126, cloneP 3), (75, rowsSetP), (124, rep5P 3)]
noncomputable def C (k : Nat) : CallF := evCall P hs prim k
end Go.Proofs.YtielkoncnddfdaaGreat.Q

/-! KFa -/
namespace Go.Proofs.YtielkoncnddfdaaGreat.Q
open Go Ovi
set_option maxRecDepth 1000000
theorem F3.eq (k : Nat) (call : CallF) (a0_0 : Ovi.Rows) (a0_1 : Ovi.Rows) (a1_0 : Ovi.Rows) (a1_1 : Ovi.Rows) (a2 : Ovi.Rows) : evFnK P hs call (3 : FuncId) k Tryz.f3 [AV.agg [AV.d (D.list 3 a0_0), AV.d (D.list 2 a0_1)], AV.agg [AV.d (D.list 1 a1_0), AV.d (D.list 2 a1_1)], AV.d (D.list 1 a2)] = ite' (decide ((↑(List.length a2) : Int) > (1048576 : Int))) (some ([(false, [RL.d (D.bool true)])])) (bindR (call 5 [AV.agg [AV.d (D.list 3 a0_0), AV.d (D.list 2 a0_1)], AV.d (D.int IntKind.i64 (1048576 : Int))]) fun r7 => bindI (resI IntKind.i64 1 false 1 r7 0 0) fun n8 => ite' (decide (n8 < (0 : Int))) (some ([(false, [RL.d (D.bool true)])])) (bindR (call 6 [AV.agg [AV.d (D.list 1 a1_0), AV.d (D.list 2 a1_1)], AV.d (D.int IntKind.i64 n8)]) fun r9 => bindI (resI IntKind.i64 1 false 1 r9 0 0) fun n10 => ite' (decide (n10 < (0 : Int))) (some ([(false, [RL.d (D.bool true)])])) (bindR (call 8 [AV.agg [AV.d (D.list 3 a0_0), AV.d (D.list 2 a0_1)]]) fun r11 => bindL (resO 70 3 1 true 2 r11 0 0) fun l12 => bindL (resO 81 2 1 true 2 r11 0 1) fun l13 => bindR (call 9 [AV.agg [AV.d (D.list 1 a1_0), AV.d (D.list 2 a1_1)]]) fun r14 => bindL (resO 3 1 1 true 2 r14 0 0) fun l15 => bindL (resO 83 2 1 true 2 r14 0 1) fun l16 => bindR (call 10 [AV.d (D.list 1 a2)]) fun r17 => bindL (resO 3 1 1 false 1 r17 0 0) fun l18 => bindR (call 7 [AV.agg [AV.d (D.list 3 l12), AV.d (D.list 2 l13)], AV.agg [AV.d (D.list 1 l15), AV.d (D.list 2 l16)], AV.d (D.list 1 l18)]) fun r19 => bindB (resB 1 false 1 r19 0 0) fun b20 => bindR (call 8 [AV.agg [AV.d (D.list 3 a0_0), AV.d (D.list 2 a0_1)]]) fun r21 => bindL (resO 70 3 1 true 2 r21 0 0) fun l22 => bindL (resO 81 2 1 true 2 r21 0 1) fun l23 => bindR (call 9 [AV.agg [AV.d (D.list 1 a1_0), AV.d (D.list 2 a1_1)]]) fun r24 => bindL (resO 3 1 1 true 2 r24 0 0) fun l25 => bindL (resO 83 2 1 true 2 r24 0 1) fun l26 => bindR (call 10 [AV.d (D.list 1 a2)]) fun r27 => bindL (resO 3 1 1 false 1 r27 0 0) fun l28 => bindR (call 11 [AV.agg [AV.d (D.list 3 l22), AV.d (D.list 2 l23)], AV.agg [AV.d (D.list 1 l25), AV.d (D.list 2 l26)], AV.d (D.list 1 l28)]) fun r29 => bindB (resB 1 false 1 r29 0 0) fun b30 => ite' (!b30 == b20) (some ([(false, [RL.d (D.bool false)])])) (bindR (call 8 [AV.agg [AV.d (D.list 3 a0_0), AV.d (D.list 2 a0_1)]]) fun r31 => bindL (resO 70 3 1 true 2 r31 0 0) fun l32 => bindL (resO 81 2 1 true 2 r31 0 1) fun l33 => bindR (call 12 [AV.agg [AV.d (D.list 3 l22), AV.d (D.list 2 l23)], AV.agg [AV.d (D.list 3 l32), AV.d (D.list 2 l33)]]) fun r34 => bindB (resB 1 false 1 r34 0 0) fun b35 => ite' (!b35) (some ([(false, [RL.d (D.bool false)])])) (bindR (call 9 [AV.agg [AV.d (D.list 1 a1_0), AV.d (D.list 2 a1_1)]]) fun r36 => bindL (resO 3 1 1 true 2 r36 0 0) fun l37 => bindL (resO 83 2 1 true 2 r36 0 1) fun l38 => bindR (call 13 [AV.agg [AV.d (D.list 1 l25), AV.d (D.list 2 l26)], AV.agg [AV.d (D.list 1 l37), AV.d (D.list 2 l38)]]) fun r39 => bindB (resB 1 false 1 r39 0 0) fun b40 => ite' (!b40) (some ([(false, [RL.d (D.bool false)])])) (bindR (call 10 [AV.d (D.list 1 a2)]) fun r41 => bindL (resO 3 1 1 false 1 r41 0 0) fun l42 => bindR (call 14 [AV.d (D.list 1 l28), AV.d (D.list 1 l42)]) fun r43 => bindB (resB 1 false 1 r43 0 0) fun b44 => ite' (!b44) (some ([(false, [RL.d (D.bool false)])])) (some ([(false, [RL.d (D.bool true)])])))))))) := by kernel_rfl
theorem F3.run (k : Nat) (a0_0 : Ovi.Rows) (a0_1 : Ovi.Rows) (a1_0 : Ovi.Rows) (a1_1 : Ovi.Rows) (a2 : Ovi.Rows) : C (k + 1) 3 [AV.agg [AV.d (D.list 3 a0_0), AV.d (D.list 2 a0_1)], AV.agg [AV.d (D.list 1 a1_0), AV.d (D.list 2 a1_1)], AV.d (D.list 1 a2)] = ite' (decide ((↑(List.length a2) : Int) > (1048576 : Int))) (some ([(false, [RL.d (D.bool true)])])) (bindR ((C k) 5 [AV.agg [AV.d (D.list 3 a0_0), AV.d (D.list 2 a0_1)], AV.d (D.int IntKind.i64 (1048576 : Int))]) fun r7 => bindI (resI IntKind.i64 1 false 1 r7 0 0) fun n8 => ite' (decide (n8 < (0 : Int))) (some ([(false, [RL.d (D.bool true)])])) (bindR ((C k) 6 [AV.agg [AV.d (D.list 1 a1_0), AV.d (D.list 2 a1_1)], AV.d (D.int IntKind.i64 n8)]) fun r9 => bindI (resI IntKind.i64 1 false 1 r9 0 0) fun n10 => ite' (decide (n10 < (0 : Int))) (some ([(false, [RL.d (D.bool true)])])) (bindR ((C k) 8 [AV.agg [AV.d (D.list 3 a0_0), AV.d (D.list 2 a0_1)]]) fun r11 => bindL (resO 70 3 1 true 2 r11 0 0) fun l12 => bindL (resO 81 2 1 true 2 r11 0 1) fun l13 => bindR ((C k) 9 [AV.agg [AV.d (D.list 1 a1_0), AV.d (D.list 2 a1_1)]]) fun r14 => bindL (resO 3 1 1 true 2 r14 0 0) fun l15 => bindL (resO 83 2 1 true 2 r14 0 1) fun l16 => bindR ((C k) 10 [AV.d (D.list 1 a2)]) fun r17 => bindL (resO 3 1 1 false 1 r17 0 0) fun l18 => bindR ((C k) 7 [AV.agg [AV.d (D.list 3 l12), AV.d (D.list 2 l13)], AV.agg [AV.d (D.list 1 l15), AV.d (D.list 2 l16)], AV.d (D.list 1 l18)]) fun r19 => bindB (resB 1 false 1 r19 0 0) fun b20 => bindR ((C k) 8 [AV.agg [AV.d (D.list 3 a0_0), AV.d (D.list 2 a0_1)]]) fun r21 => bindL (resO 70 3 1 true 2 r21 0 0) fun l22 => bindL (resO 81 2 1 true 2 r21 0 1) fun l23 => bindR ((C k) 9 [AV.agg [AV.d (D.list 1 a1_0), AV.d (D.list 2 a1_1)]]) fun r24 => bindL (resO 3 1 1 true 2 r24 0 0) fun l25 => bindL (resO 83 2 1 true 2 r24 0 1) fun l26 => bindR ((C k) 10 [AV.d (D.list 1 a2)]) fun r27 => bindL (resO 3 1 1 false 1 r27 0 0) fun l28 => bindR ((C k) 11 [AV.agg [AV.d (D.list 3 l22), AV.d (D.list 2 l23)], AV.agg [AV.d (D.list 1 l25), AV.d (D.list 2 l26)], AV.d (D.list 1 l28)]) fun r29 => bindB (resB 1 false 1 r29 0 0) fun b30 => ite' (!b30 == b20) (some ([(false, [RL.d (D.bool false)])])) (bindR ((C k) 8 [AV.agg [AV.d (D.list 3 a0_0), AV.d (D.list 2 a0_1)]]) fun r31 => bindL (resO 70 3 1 true 2 r31 0 0) fun l32 => bindL (resO 81 2 1 true 2 r31 0 1) fun l33 => bindR ((C k) 12 [AV.agg [AV.d (D.list 3 l22), AV.d (D.list 2 l23)], AV.agg [AV.d (D.list 3 l32), AV.d (D.list 2 l33)]]) fun r34 => bindB (resB 1 false 1 r34 0 0) fun b35 => ite' (!b35) (some ([(false, [RL.d (D.bool false)])])) (bindR ((C k) 9 [AV.agg [AV.d (D.list 1 a1_0), AV.d (D.list 2 a1_1)]]) fun r36 => bindL (resO 3 1 1 true 2 r36 0 0) fun l37 => bindL (resO 83 2 1 true 2 r36 0 1) fun l38 => bindR ((C k) 13 [AV.agg [AV.d (D.list 1 l25), AV.d (D.list 2 l26)], AV.agg [AV.d (D.list 1 l37), AV.d (D.list 2 l38)]]) fun r39 => bindB (resB 1 false 1 r39 0 0) fun b40 => ite' (!b40) (some ([(false, [RL.d (D.bool false)])])) (bindR ((C k) 10 [AV.d (D.list 1 a2)]) fun r41 => bindL (resO 3 1 1 false 1 r41 0 0) fun l42 => bindR ((C k) 14 [AV.d (D.list 1 l28), AV.d (D.list 1 l42)]) fun r43 => bindB (resB 1 false 1 r43 0 0) fun b44 => ite' (!b44) (some ([(false, [RL.d (D.bool false)])])) (some ([(false, [RL.d (D.bool true)])])))))))) := (show C (k + 1) 3 [AV.agg [AV.d (D.list 3 a0_0), AV.d (D.list 2 a0_1)], AV.agg [AV.d (D.list 1 a1_0), AV.d (D.list 2 a1_1)], AV.d (D.list 1 a2)] = evFnK P hs (C k) 3 k Tryz.f3 [AV.agg [AV.d (D.list 3 a0_0), AV.d (D.list 2 a0_1)], AV.agg [AV.d (D.list 1 a1_0), AV.d (D.list 2 a1_1)], AV.d (D.list 1 a2)] by kernel_rfl).trans (F3.eq k (C k) a0_0 a0_1 a1_0 a1_1 a2)
theorem F5.eq (k : Nat) (call : CallF) (a0_0 : Ovi.Rows) (a0_1 : Ovi.Rows) (a1 : Int) : evFnK P hs call (5 : FuncId) k Tryz.f5 [AV.agg [AV.d (D.list 3 a0_0), AV.d (D.list 2 a0_1)], AV.d (D.int IntKind.i64 a1)] = bindR (call 15 [AV.d (D.list 3 a0_0), AV.d (D.int IntKind.i64 a1)]) fun r5 => bindI (resI IntKind.i64 1 false 1 r5 0 0) fun n6 => ite' (decide (n6 < (0 : Int))) (some ([(false, [RL.d (D.int IntKind.i64 (-1 : Int))])])) (bindR (call 20 [AV.d (D.list 2 a0_1), AV.d (D.int IntKind.i64 n6)]) fun r7 => bindI (resI IntKind.i64 1 false 1 r7 0 0) fun n8 => ite' (decide (n8 < (0 : Int))) (some ([(false, [RL.d (D.int IntKind.i64 (-1 : Int))])])) (some ([(false, [RL.d (D.int IntKind.i64 n8)])]))) := by kernel_rfl
theorem F5.run (k : Nat) (a0_0 : Ovi.Rows) (a0_1 : Ovi.Rows) (a1 : Int) : C (k + 1) 5 [AV.agg [AV.d (D.list 3 a0_0), AV.d (D.list 2 a0_1)], AV.d (D.int IntKind.i64 a1)] = bindR ((C k) 15 [AV.d (D.list 3 a0_0), AV.d (D.int IntKind.i64 a1)]) fun r5 => bindI (resI IntKind.i64 1 false 1 r5 0 0) fun n6 => ite' (decide (n6 < (0 : Int))) (some ([(false, [RL.d (D.int IntKind.i64 (-1 : Int))])])) (bindR ((C k) 20 [AV.d (D.list 2 a0_1), AV.d (D.int IntKind.i64 n6)]) fun r7 => bindI (resI IntKind.i64 1 false 1 r7 0 0) fun n8 => ite' (decide (n8 < (0 : Int))) (some ([(false, [RL.d (D.int IntKind.i64 (-1 : Int))])])) (some ([(false, [RL.d (D.int IntKind.i64 n8)])]))) := (show C (k + 1) 5 [AV.agg [AV.d (D.list 3 a0_0), AV.d (D.list 2 a0_1)], AV.d (D.int IntKind.i64 a1)] = evFnK P hs (C k) 5 k Tryz.f5 [AV.agg [AV.d (D.list 3 a0_0), AV.d (D.list 2 a0_1)], AV.d (D.int IntKind.i64 a1)] by kernel_rfl).trans (F5.eq k (C k) a0_0 a0_1 a1)
theorem F6.eq (k : Nat) (call : CallF) (a0_0 : Ovi.Rows) (a0_1 : Ovi.Rows) (a1 : Int) : evFnK P hs call (6 : FuncId) k Tryz.f6 [AV.agg [AV.d (D.list 1 a0_0), AV.d (D.list 2 a0_1)], AV.d (D.int IntKind.i64 a1)] = bindR (call 21 [AV.d (D.list 1 a0_0), AV.d (D.int IntKind.i64 a1)]) fun r5 => bindI (resI IntKind.i64 1 false 1 r5 0 0) fun n6 => ite' (decide (n6 < (0 : Int))) (some ([(false, [RL.d (D.int IntKind.i64 (-1 : Int))])])) (bindR (call 22 [AV.d (D.list 2 a0_1), AV.d (D.int IntKind.i64 n6)]) fun r7 => bindI (resI IntKind.i64 1 false 1 r7 0 0) fun n8 => ite' (decide (n8 < (0 : Int))) (some ([(false, [RL.d (D.int IntKind.i64 (-1 : Int))])])) (some ([(false, [RL.d (D.int IntKind.i64 n8)])]))) := by kernel_rfl
theorem F6.run (k : Nat) (a0_0 : Ovi.Rows) (a0_1 : Ovi.Rows) (a1 : Int) : C (k + 1) 6 [AV.agg [AV.d (D.list 1 a0_0), AV.d (D.list 2 a0_1)], AV.d (D.int IntKind.i64 a1)] = bindR ((C k) 21 [AV.d (D.list 1 a0_0), AV.d (D.int IntKind.i64 a1)]) fun r5 => bindI (resI IntKind.i64 1 false 1 r5 0 0) fun n6 => ite' (decide (n6 < (0 : Int))) (some ([(false, [RL.d (D.int IntKind.i64 (-1 : Int))])])) (bindR ((C k) 22 [AV.d (D.list 2 a0_1), AV.d (D.int IntKind.i64 n6)]) fun r7 => bindI (resI IntKind.i64 1 false 1 r7 0 0) fun n8 => ite' (decide (n8 < (0 : Int))) (some ([(false, [RL.d (D.int IntKind.i64 (-1 : Int))])])) (some ([(false, [RL.d (D.int IntKind.i64 n8)])]))) := (show C (k + 1) 6 [AV.agg [AV.d (D.list 1 a0_0), AV.d (D.list 2 a0_1)], AV.d (D.int IntKind.i64 a1)] = evFnK P hs (C k) 6 k Tryz.f6 [AV.agg [AV.d (D.list 1 a0_0), AV.d (D.list 2 a0_1)], AV.d (D.int IntKind.i64 a1)] by kernel_rfl).trans (F6.eq k (C k) a0_0 a0_1 a1)
noncomputable def F7.L3 (k : Nat) (call : CallF)  (n : Nat) (v0 : Ovi.Rows) (v1 : Ovi.Rows) (v2 : Int) : Option Res := loopFn P hs call 7 k Tryz.f7 [1, 1, 0, 1, 0] [] n [(2, AV.d (D.list 1 v0)), (7, AV.d (D.list 1 v1)), (8, AV.d (D.int IntKind.i64 v2))] []
theorem F7.L3.zero (k : Nat) (call : CallF)  (v0 : Ovi.Rows) (v1 : Ovi.Rows) (v2 : Int) : F7.L3 k call  0 v0 v1 v2 = none := by kernel_rfl
theorem F7.L3.succ (k : Nat) (call : CallF)  (n : Nat) (v0 : Ovi.Rows) (v1 : Ovi.Rows) (v2 : Int) : F7.L3 k call  (n + 1) v0 v1 v2 = ite' (decide (v2 < (↑(List.length v1) : Int))) (ite' (inR v2 (List.length v1)) (bindL (cellL 1 v1 v2.toNat 0) fun l11 => bindR (call 24 [AV.d (D.list 1 l11), AV.d (D.list 1 v0)]) fun r12 => bindI (resI IntKind.i64 1 false 1 r12 0 0) fun n13 => ite' (n13 == (0 : Int)) (some ([(false, [RL.d (D.bool true)])])) (F7.L3 k call  (n) (v0) (v1) (IntKind.i64.wrap (v2 + (1 : Int))))) (none)) (some ([(false, [RL.d (D.bool false)])])) := by kernel_rfl
theorem F7.eq (k : Nat) (call : CallF) (a0_0 : Ovi.Rows) (a0_1 : Ovi.Rows) (a1_0 : Ovi.Rows) (a1_1 : Ovi.Rows) (a2 : Ovi.Rows) : evFnK P hs call (7 : FuncId) k Tryz.f7 [AV.agg [AV.d (D.list 3 a0_0), AV.d (D.list 2 a0_1)], AV.agg [AV.d (D.list 1 a1_0), AV.d (D.list 2 a1_1)], AV.d (D.list 1 a2)] = bindR (call 23 [AV.agg [AV.d (D.list 3 a0_0), AV.d (D.list 2 a0_1)], AV.agg [AV.d (D.list 1 a1_0), AV.d (D.list 2 a1_1)]]) fun r7 => bindL (resL 1 1 false 1 r7 0 0) fun l8 => F7.L3 k call  (k) (a2) (l8) ((0 : Int)) := by kernel_rfl
theorem F7.run (k : Nat) (a0_0 : Ovi.Rows) (a0_1 : Ovi.Rows) (a1_0 : Ovi.Rows) (a1_1 : Ovi.Rows) (a2 : Ovi.Rows) : C (k + 1) 7 [AV.agg [AV.d (D.list 3 a0_0), AV.d (D.list 2 a0_1)], AV.agg [AV.d (D.list 1 a1_0), AV.d (D.list 2 a1_1)], AV.d (D.list 1 a2)] = bindR ((C k) 23 [AV.agg [AV.d (D.list 3 a0_0), AV.d (D.list 2 a0_1)], AV.agg [AV.d (D.list 1 a1_0), AV.d (D.list 2 a1_1)]]) fun r7 => bindL (resL 1 1 false 1 r7 0 0) fun l8 => F7.L3 k (C k)  (k) (a2) (l8) ((0 : Int)) := (show C (k + 1) 7 [AV.agg [AV.d (D.list 3 a0_0), AV.d (D.list 2 a0_1)], AV.agg [AV.d (D.list 1 a1_0), AV.d (D.list 2 a1_1)], AV.d (D.list 1 a2)] = evFnK P hs (C k) 7 k Tryz.f7 [AV.agg [AV.d (D.list 3 a0_0), AV.d (D.list 2 a0_1)], AV.agg [AV.d (D.list 1 a1_0), AV.d (D.list 2 a1_1)], AV.d (D.list 1 a2)] by kernel_rfl).trans (F7.eq k (C k) a0_0 a0_1 a1_0 a1_1 a2)
theorem F8.eq (k : Nat) (call : CallF) (a0_0 : Ovi.Rows) (a0_1 : Ovi.Rows) : evFnK P hs call (8 : FuncId) k Tryz.f8 [AV.agg [AV.d (D.list 3 a0_0), AV.d (D.list 2 a0_1)]] = bindR (call 17 [AV.d (D.list 3 a0_0)]) fun r4 => bindL (resO 70 3 1 false 1 r4 0 0) fun l5 => bindR (call 25 [AV.d (D.list 2 a0_1)]) fun r6 => bindL (resO 81 2 1 false 1 r6 0 0) fun l7 => some ([(true, [RL.row 70 3 l5, RL.row 81 2 l7])]) := by kernel_rfl
theorem F8.run (k : Nat) (a0_0 : Ovi.Rows) (a0_1 : Ovi.Rows) : C (k + 1) 8 [AV.agg [AV.d (D.list 3 a0_0), AV.d (D.list 2 a0_1)]] = bindR ((C k) 17 [AV.d (D.list 3 a0_0)]) fun r4 => bindL (resO 70 3 1 false 1 r4 0 0) fun l5 => bindR ((C k) 25 [AV.d (D.list 2 a0_1)]) fun r6 => bindL (resO 81 2 1 false 1 r6 0 0) fun l7 => some ([(true, [RL.row 70 3 l5, RL.row 81 2 l7])]) := (show C (k + 1) 8 [AV.agg [AV.d (D.list 3 a0_0), AV.d (D.list 2 a0_1)]] = evFnK P hs (C k) 8 k Tryz.f8 [AV.agg [AV.d (D.list 3 a0_0), AV.d (D.list 2 a0_1)]] by kernel_rfl).trans (F8.eq k (C k) a0_0 a0_1)
theorem F9.eq (k : Nat) (call : CallF) (a0_0 : Ovi.Rows) (a0_1 : Ovi.Rows) : evFnK P hs call (9 : FuncId) k Tryz.f9 [AV.agg [AV.d (D.list 1 a0_0), AV.d (D.list 2 a0_1)]] = bindR (call 10 [AV.d (D.list 1 a0_0)]) fun r4 => bindL (resO 3 1 1 false 1 r4 0 0) fun l5 => bindR (call 26 [AV.d (D.list 2 a0_1)]) fun r6 => bindL (resO 83 2 1 false 1 r6 0 0) fun l7 => some ([(true, [RL.row 3 1 l5, RL.row 83 2 l7])]) := by kernel_rfl
theorem F9.run (k : Nat) (a0_0 : Ovi.Rows) (a0_1 : Ovi.Rows) : C (k + 1) 9 [AV.agg [AV.d (D.list 1 a0_0), AV.d (D.list 2 a0_1)]] = bindR ((C k) 10 [AV.d (D.list 1 a0_0)]) fun r4 => bindL (resO 3 1 1 false 1 r4 0 0) fun l5 => bindR ((C k) 26 [AV.d (D.list 2 a0_1)]) fun r6 => bindL (resO 83 2 1 false 1 r6 0 0) fun l7 => some ([(true, [RL.row 3 1 l5, RL.row 83 2 l7])]) := (show C (k + 1) 9 [AV.agg [AV.d (D.list 1 a0_0), AV.d (D.list 2 a0_1)]] = evFnK P hs (C k) 9 k Tryz.f9 [AV.agg [AV.d (D.list 1 a0_0), AV.d (D.list 2 a0_1)]] by kernel_rfl).trans (F9.eq k (C k) a0_0 a0_1)
noncomputable def F10.L3 (k : Nat) (call : CallF)  (n : Nat) (v0 : Ovi.Rows) (v1 : Int) (v2 : Ovi.Rows) : Option Res := loopFn P hs call 10 k Tryz.f10 [1, 1, 0, 1, 0] [] n [(0, AV.d (D.list 1 v0)), (3, AV.own 100003 0), (4, AV.d (D.int IntKind.i64 v1))] [(100003, Blk.arr 3 1 0 v2)]
theorem F10.L3.zero (k : Nat) (call : CallF)  (v0 : Ovi.Rows) (v1 : Int) (v2 : Ovi.Rows) : F10.L3 k call  0 v0 v1 v2 = none := by kernel_rfl
theorem F10.L3.succ (k : Nat) (call : CallF)  (n : Nat) (v0 : Ovi.Rows) (v1 : Int) (v2 : Ovi.Rows) : F10.L3 k call  (n + 1) v0 v1 v2 = ite' (decide (v1 < (↑(List.length v0) : Int))) (ite' (inR v1 (List.length v0)) (bindI (cellI IntKind.i64 v0 v1.toNat 0) fun n7 => ite' (inR v1 (List.length v2)) (F10.L3 k call  (n) (v0) (IntKind.i64.wrap (v1 + (1 : Int))) (rowsSet v2 v1.toNat 0 [D.int IntKind.i64 n7])) (none)) (none)) (some ([(false, [RL.row 3 1 v2])])) := by kernel_rfl
theorem F10.eq (k : Nat) (call : CallF) (a0 : Ovi.Rows) : evFnK P hs call (10 : FuncId) k Tryz.f10 [AV.d (D.list 1 a0)] = ite' ((↑(List.length a0) : Int) == (↑(List.length a0) : Int)) (ite' (inM (↑(List.length a0) : Int)) (F10.L3 k call  (k) (a0) ((0 : Int)) (rowsOf (↑(List.length a0) : Int) [D.int IntKind.i64 (0 : Int)])) (none)) (none) := by kernel_rfl
theorem F10.run (k : Nat) (a0 : Ovi.Rows) : C (k + 1) 10 [AV.d (D.list 1 a0)] = ite' ((↑(List.length a0) : Int) == (↑(List.length a0) : Int)) (ite' (inM (↑(List.length a0) : Int)) (F10.L3 k (C k)  (k) (a0) ((0 : Int)) (rowsOf (↑(List.length a0) : Int) [D.int IntKind.i64 (0 : Int)])) (none)) (none) := (show C (k + 1) 10 [AV.d (D.list 1 a0)] = evFnK P hs (C k) 10 k Tryz.f10 [AV.d (D.list 1 a0)] by kernel_rfl).trans (F10.eq k (C k) a0)
theorem F11.eq (k : Nat) (call : CallF) (a0_0 : Ovi.Rows) (a0_1 : Ovi.Rows) (a1_0 : Ovi.Rows) (a1_1 : Ovi.Rows) (a2 : Ovi.Rows) : evFnK P hs call (11 : FuncId) k Tryz.f11 [AV.agg [AV.d (D.list 3 a0_0), AV.d (D.list 2 a0_1)], AV.agg [AV.d (D.list 1 a1_0), AV.d (D.list 2 a1_1)], AV.d (D.list 1 a2)] = bindR (call 28 [AV.agg [AV.d (D.list 3 a0_0), AV.d (D.list 2 a0_1)], AV.agg [AV.d (D.list 1 a1_0), AV.d (D.list 2 a1_1)]]) fun r7 => bindL (resO 26 1 1 false 1 r7 0 0) fun l8 => bindR (call 27 [AV.d (D.list 1 l8), AV.d (D.list 1 a2)]) fun r9 => bindB (resB 1 false 1 r9 0 0) fun b10 => some ([(false, [RL.d (D.bool b10)])]) := by kernel_rfl
theorem F11.run (k : Nat) (a0_0 : Ovi.Rows) (a0_1 : Ovi.Rows) (a1_0 : Ovi.Rows) (a1_1 : Ovi.Rows) (a2 : Ovi.Rows) : C (k + 1) 11 [AV.agg [AV.d (D.list 3 a0_0), AV.d (D.list 2 a0_1)], AV.agg [AV.d (D.list 1 a1_0), AV.d (D.list 2 a1_1)], AV.d (D.list 1 a2)] = bindR ((C k) 28 [AV.agg [AV.d (D.list 3 a0_0), AV.d (D.list 2 a0_1)], AV.agg [AV.d (D.list 1 a1_0), AV.d (D.list 2 a1_1)]]) fun r7 => bindL (resO 26 1 1 false 1 r7 0 0) fun l8 => bindR ((C k) 27 [AV.d (D.list 1 l8), AV.d (D.list 1 a2)]) fun r9 => bindB (resB 1 false 1 r9 0 0) fun b10 => some ([(false, [RL.d (D.bool b10)])]) := (show C (k + 1) 11 [AV.agg [AV.d (D.list 3 a0_0), AV.d (D.list 2 a0_1)], AV.agg [AV.d (D.list 1 a1_0), AV.d (D.list 2 a1_1)], AV.d (D.list 1 a2)] = evFnK P hs (C k) 11 k Tryz.f11 [AV.agg [AV.d (D.list 3 a0_0), AV.d (D.list 2 a0_1)], AV.agg [AV.d (D.list 1 a1_0), AV.d (D.list 2 a1_1)], AV.d (D.list 1 a2)] by kernel_rfl).trans (F11.eq k (C k) a0_0 a0_1 a1_0 a1_1 a2)
theorem F12.eq (k : Nat) (call : CallF) (a0_0 : Ovi.Rows) (a0_1 : Ovi.Rows) (a1_0 : Ovi.Rows) (a1_1 : Ovi.Rows) : evFnK P hs call (12 : FuncId) k Tryz.f12 [AV.agg [AV.d (D.list 3 a0_0), AV.d (D.list 2 a0_1)], AV.agg [AV.d (D.list 3 a1_0), AV.d (D.list 2 a1_1)]] = bindR (call 19 [AV.d (D.list 3 a0_0), AV.d (D.list 3 a1_0)]) fun r6 => bindB (resB 1 false 1 r6 0 0) fun b7 => ite' (!b7) (some ([(false, [RL.d (D.bool false)])])) (bindR (call 29 [AV.d (D.list 2 a0_1), AV.d (D.list 2 a1_1)]) fun r8 => bindB (resB 1 false 1 r8 0 0) fun b9 => ite' (!b9) (some ([(false, [RL.d (D.bool false)])])) (some ([(false, [RL.d (D.bool true)])]))) := by kernel_rfl
theorem F12.run (k : Nat) (a0_0 : Ovi.Rows) (a0_1 : Ovi.Rows) (a1_0 : Ovi.Rows) (a1_1 : Ovi.Rows) : C (k + 1) 12 [AV.agg [AV.d (D.list 3 a0_0), AV.d (D.list 2 a0_1)], AV.agg [AV.d (D.list 3 a1_0), AV.d (D.list 2 a1_1)]] = bindR ((C k) 19 [AV.d (D.list 3 a0_0), AV.d (D.list 3 a1_0)]) fun r6 => bindB (resB 1 false 1 r6 0 0) fun b7 => ite' (!b7) (some ([(false, [RL.d (D.bool false)])])) (bindR ((C k) 29 [AV.d (D.list 2 a0_1), AV.d (D.list 2 a1_1)]) fun r8 => bindB (resB 1 false 1 r8 0 0) fun b9 => ite' (!b9) (some ([(false, [RL.d (D.bool false)])])) (some ([(false, [RL.d (D.bool true)])]))) := (show C (k + 1) 12 [AV.agg [AV.d (D.list 3 a0_0), AV.d (D.list 2 a0_1)], AV.agg [AV.d (D.list 3 a1_0), AV.d (D.list 2 a1_1)]] = evFnK P hs (C k) 12 k Tryz.f12 [AV.agg [AV.d (D.list 3 a0_0), AV.d (D.list 2 a0_1)], AV.agg [AV.d (D.list 3 a1_0), AV.d (D.list 2 a1_1)]] by kernel_rfl).trans (F12.eq k (C k) a0_0 a0_1 a1_0 a1_1)
theorem F13.eq (k : Nat) (call : CallF) (a0_0 : Ovi.Rows) (a0_1 : Ovi.Rows) (a1_0 : Ovi.Rows) (a1_1 : Ovi.Rows) : evFnK P hs call (13 : FuncId) k Tryz.f13 [AV.agg [AV.d (D.list 1 a0_0), AV.d (D.list 2 a0_1)], AV.agg [AV.d (D.list 1 a1_0), AV.d (D.list 2 a1_1)]] = bindR (call 14 [AV.d (D.list 1 a0_0), AV.d (D.list 1 a1_0)]) fun r6 => bindB (resB 1 false 1 r6 0 0) fun b7 => ite' (!b7) (some ([(false, [RL.d (D.bool false)])])) (bindR (call 30 [AV.d (D.list 2 a0_1), AV.d (D.list 2 a1_1)]) fun r8 => bindB (resB 1 false 1 r8 0 0) fun b9 => ite' (!b9) (some ([(false, [RL.d (D.bool false)])])) (some ([(false, [RL.d (D.bool true)])]))) := by kernel_rfl
theorem F13.run (k : Nat) (a0_0 : Ovi.Rows) (a0_1 : Ovi.Rows) (a1_0 : Ovi.Rows) (a1_1 : Ovi.Rows) : C (k + 1) 13 [AV.agg [AV.d (D.list 1 a0_0), AV.d (D.list 2 a0_1)], AV.agg [AV.d (D.list 1 a1_0), AV.d (D.list 2 a1_1)]] = bindR ((C k) 14 [AV.d (D.list 1 a0_0), AV.d (D.list 1 a1_0)]) fun r6 => bindB (resB 1 false 1 r6 0 0) fun b7 => ite' (!b7) (some ([(false, [RL.d (D.bool false)])])) (bindR ((C k) 30 [AV.d (D.list 2 a0_1), AV.d (D.list 2 a1_1)]) fun r8 => bindB (resB 1 false 1 r8 0 0) fun b9 => ite' (!b9) (some ([(false, [RL.d (D.bool false)])])) (some ([(false, [RL.d (D.bool true)])]))) := (show C (k + 1) 13 [AV.agg [AV.d (D.list 1 a0_0), AV.d (D.list 2 a0_1)], AV.agg [AV.d (D.list 1 a1_0), AV.d (D.list 2 a1_1)]] = evFnK P hs (C k) 13 k Tryz.f13 [AV.agg [AV.d (D.list 1 a0_0), AV.d (D.list 2 a0_1)], AV.agg [AV.d (D.list 1 a1_0), AV.d (D.list 2 a1_1)]] by kernel_rfl).trans (F13.eq k (C k) a0_0 a0_1 a1_0 a1_1)
noncomputable def F14.L4 (k : Nat) (call : CallF)  (n : Nat) (v0 : Ovi.Rows) (v1 : Ovi.Rows) (v2 : Int) : Option Res := loopFn P hs call 14 k Tryz.f14 [1, 1, 0, 1, 0] [] n [(0, AV.d (D.list 1 v0)), (1, AV.d (D.list 1 v1)), (5, AV.d (D.int IntKind.i64 v2))] []
theorem F14.L4.zero (k : Nat) (call : CallF)  (v0 : Ovi.Rows) (v1 : Ovi.Rows) (v2 : Int) : F14.L4 k call  0 v0 v1 v2 = none := by kernel_rfl
theorem F14.L4.succ (k : Nat) (call : CallF)  (n : Nat) (v0 : Ovi.Rows) (v1 : Ovi.Rows) (v2 : Int) : F14.L4 k call  (n + 1) v0 v1 v2 = ite' (decide (v2 < (↑(List.length v0) : Int))) (ite' (inR v2 (List.length v0)) (bindI (cellI IntKind.i64 v0 v2.toNat 0) fun n8 => ite' (inR v2 (List.length v1)) (bindI (cellI IntKind.i64 v1 v2.toNat 0) fun n9 => ite' (n8 != n9) (some ([(false, [RL.d (D.bool false)])])) (F14.L4 k call  (n) (v0) (v1) (IntKind.i64.wrap (v2 + (1 : Int))))) (none)) (none)) (some ([(false, [RL.d (D.bool true)])])) := by kernel_rfl
theorem F14.eq (k : Nat) (call : CallF) (a0 : Ovi.Rows) (a1 : Ovi.Rows) : evFnK P hs call (14 : FuncId) k Tryz.f14 [AV.d (D.list 1 a0), AV.d (D.list 1 a1)] = ite' ((↑(List.length a0) : Int) != (↑(List.length a1) : Int)) (some ([(false, [RL.d (D.bool false)])])) (F14.L4 k call  (k) (a0) (a1) ((0 : Int))) := by kernel_rfl
theorem F14.run (k : Nat) (a0 : Ovi.Rows) (a1 : Ovi.Rows) : C (k + 1) 14 [AV.d (D.list 1 a0), AV.d (D.list 1 a1)] = ite' ((↑(List.length a0) : Int) != (↑(List.length a1) : Int)) (some ([(false, [RL.d (D.bool false)])])) (F14.L4 k (C k)  (k) (a0) (a1) ((0 : Int))) := (show C (k + 1) 14 [AV.d (D.list 1 a0), AV.d (D.list 1 a1)] = evFnK P hs (C k) 14 k Tryz.f14 [AV.d (D.list 1 a0), AV.d (D.list 1 a1)] by kernel_rfl).trans (F14.eq k (C k) a0 a1)
noncomputable def F15.L5 (k : Nat) (call : CallF)  (n : Nat) (v0 : Ovi.Rows) (v1 : Int) (v2 : Int) : Option Res := loopFn P hs call 15 k Tryz.f15 [1, 1, 1, 0, 1, 0] [] n [(0, AV.d (D.list 3 v0)), (1, AV.d (D.int IntKind.i64 v1)), (5, AV.d (D.int IntKind.i64 v2))] []
theorem F15.L5.zero (k : Nat) (call : CallF)  (v0 : Ovi.Rows) (v1 : Int) (v2 : Int) : F15.L5 k call  0 v0 v1 v2 = none := by kernel_rfl
theorem F15.L5.succ (k : Nat) (call : CallF)  (n : Nat) (v0 : Ovi.Rows) (v1 : Int) (v2 : Int) : F15.L5 k call  (n + 1) v0 v1 v2 = ite' (decide (v2 < (↑(List.length v0) : Int))) (ite' (inR v2 (List.length v0)) (bindS (cellS v0 v2.toNat 0) fun s8 => bindI (cellI IntKind.i64 v0 v2.toNat 1) fun n9 => bindB (cellB v0 v2.toNat 2) fun b10 => bindR (call 31 [AV.agg [AV.d (D.str s8), AV.d (D.int IntKind.i64 n9), AV.d (D.bool b10)], AV.d (D.int IntKind.i64 v1)]) fun r11 => bindI (resI IntKind.i64 1 false 1 r11 0 0) fun n12 => ite' (decide (n12 < (0 : Int))) (some ([(false, [RL.d (D.int IntKind.i64 (-1 : Int))])])) (F15.L5 k call  (n) (v0) (n12) (IntKind.i64.wrap (v2 + (1 : Int))))) (none)) (some ([(false, [RL.d (D.int IntKind.i64 v1)])])) := by kernel_rfl
theorem F15.eq (k : Nat) (call : CallF) (a0 : Ovi.Rows) (a1 : Int) : evFnK P hs call (15 : FuncId) k Tryz.f15 [AV.d (D.list 3 a0), AV.d (D.int IntKind.i64 a1)] = ite' (decide (IntKind.i64.wrap (a1 - (↑(List.length a0) : Int)) < (0 : Int))) (some ([(false, [RL.d (D.int IntKind.i64 (-1 : Int))])])) (F15.L5 k call  (k) (a0) (IntKind.i64.wrap (a1 - (↑(List.length a0) : Int))) ((0 : Int))) := by kernel_rfl
theorem F15.run (k : Nat) (a0 : Ovi.Rows) (a1 : Int) : C (k + 1) 15 [AV.d (D.list 3 a0), AV.d (D.int IntKind.i64 a1)] = ite' (decide (IntKind.i64.wrap (a1 - (↑(List.length a0) : Int)) < (0 : Int))) (some ([(false, [RL.d (D.int IntKind.i64 (-1 : Int))])])) (F15.L5 k (C k)  (k) (a0) (IntKind.i64.wrap (a1 - (↑(List.length a0) : Int))) ((0 : Int))) := (show C (k + 1) 15 [AV.d (D.list 3 a0), AV.d (D.int IntKind.i64 a1)] = evFnK P hs (C k) 15 k Tryz.f15 [AV.d (D.list 3 a0), AV.d (D.int IntKind.i64 a1)] by kernel_rfl).trans (F15.eq k (C k) a0 a1)
noncomputable def F17.L3 (k : Nat) (call : CallF)  (n : Nat) (v0 : Ovi.Rows) (v1 : Int) (v2 : Ovi.Rows) : Option Res := loopFn P hs call 17 k Tryz.f17 [1, 1, 0, 1, 0] [] n [(0, AV.d (D.list 3 v0)), (3, AV.own 100003 0), (4, AV.d (D.int IntKind.i64 v1))] [(100003, Blk.arr 70 3 0 v2)]
theorem F17.L3.zero (k : Nat) (call : CallF)  (v0 : Ovi.Rows) (v1 : Int) (v2 : Ovi.Rows) : F17.L3 k call  0 v0 v1 v2 = none := by kernel_rfl
theorem F17.L3.succ (k : Nat) (call : CallF)  (n : Nat) (v0 : Ovi.Rows) (v1 : Int) (v2 : Ovi.Rows) : F17.L3 k call  (n + 1) v0 v1 v2 = ite' (decide (v1 < (↑(List.length v0) : Int))) (ite' (inR v1 (List.length v0)) (bindS (cellS v0 v1.toNat 0) fun s7 => bindI (cellI IntKind.i64 v0 v1.toNat 1) fun n8 => bindB (cellB v0 v1.toNat 2) fun b9 => bindR (call 35 [AV.agg [AV.d (D.str s7), AV.d (D.int IntKind.i64 n8), AV.d (D.bool b9)]]) fun r10 => bindS (resS 1 true 3 r10 0 0) fun s11 => bindI (resI IntKind.i64 1 true 3 r10 0 1) fun n12 => bindB (resB 1 true 3 r10 0 2) fun b13 => ite' (inR v1 (List.length v2)) (F17.L3 k call  (n) (v0) (IntKind.i64.wrap (v1 + (1 : Int))) (rowsSet v2 v1.toNat 0 [D.str s11, D.int IntKind.i64 n12, D.bool b13])) (none)) (none)) (some ([(false, [RL.row 70 3 v2])])) := by kernel_rfl
theorem F17.eq (k : Nat) (call : CallF) (a0 : Ovi.Rows) : evFnK P hs call (17 : FuncId) k Tryz.f17 [AV.d (D.list 3 a0)] = ite' ((↑(List.length a0) : Int) == (↑(List.length a0) : Int)) (ite' (inM (↑(List.length a0) : Int)) (F17.L3 k call  (k) (a0) ((0 : Int)) (rowsOf (↑(List.length a0) : Int) [D.str ([] : List UInt8), D.int IntKind.i64 (0 : Int), D.bool false])) (none)) (none) := by kernel_rfl
theorem F17.run (k : Nat) (a0 : Ovi.Rows) : C (k + 1) 17 [AV.d (D.list 3 a0)] = ite' ((↑(List.length a0) : Int) == (↑(List.length a0) : Int)) (ite' (inM (↑(List.length a0) : Int)) (F17.L3 k (C k)  (k) (a0) ((0 : Int)) (rowsOf (↑(List.length a0) : Int) [D.str ([] : List UInt8), D.int IntKind.i64 (0 : Int), D.bool false])) (none)) (none) := (show C (k + 1) 17 [AV.d (D.list 3 a0)] = evFnK P hs (C k) 17 k Tryz.f17 [AV.d (D.list 3 a0)] by kernel_rfl).trans (F17.eq k (C k) a0)
noncomputable def F19.L4 (k : Nat) (call : CallF)  (n : Nat) (v0 : Ovi.Rows) (v1 : Ovi.Rows) (v2 : Int) : Option Res := loopFn P hs call 19 k Tryz.f19 [1, 1, 0, 1, 0] [] n [(0, AV.d (D.list 3 v0)), (1, AV.d (D.list 3 v1)), (5, AV.d (D.int IntKind.i64 v2))] []
theorem F19.L4.zero (k : Nat) (call : CallF)  (v0 : Ovi.Rows) (v1 : Ovi.Rows) (v2 : Int) : F19.L4 k call  0 v0 v1 v2 = none := by kernel_rfl
theorem F19.L4.succ (k : Nat) (call : CallF)  (n : Nat) (v0 : Ovi.Rows) (v1 : Ovi.Rows) (v2 : Int) : F19.L4 k call  (n + 1) v0 v1 v2 = ite' (decide (v2 < (↑(List.length v0) : Int))) (ite' (inR v2 (List.length v0)) (bindS (cellS v0 v2.toNat 0) fun s8 => bindI (cellI IntKind.i64 v0 v2.toNat 1) fun n9 => bindB (cellB v0 v2.toNat 2) fun b10 => ite' (inR v2 (List.length v1)) (bindS (cellS v1 v2.toNat 0) fun s11 => bindI (cellI IntKind.i64 v1 v2.toNat 1) fun n12 => bindB (cellB v1 v2.toNat 2) fun b13 => bindR (call 39 [AV.agg [AV.d (D.str s8), AV.d (D.int IntKind.i64 n9), AV.d (D.bool b10)], AV.agg [AV.d (D.str s11), AV.d (D.int IntKind.i64 n12), AV.d (D.bool b13)]]) fun r14 => bindB (resB 1 false 1 r14 0 0) fun b15 => ite' (!b15) (some ([(false, [RL.d (D.bool false)])])) (F19.L4 k call  (n) (v0) (v1) (IntKind.i64.wrap (v2 + (1 : Int))))) (none)) (none)) (some ([(false, [RL.d (D.bool true)])])) := by kernel_rfl
theorem F19.eq (k : Nat) (call : CallF) (a0 : Ovi.Rows) (a1 : Ovi.Rows) : evFnK P hs call (19 : FuncId) k Tryz.f19 [AV.d (D.list 3 a0), AV.d (D.list 3 a1)] = ite' ((↑(List.length a0) : Int) != (↑(List.length a1) : Int)) (some ([(false, [RL.d (D.bool false)])])) (F19.L4 k call  (k) (a0) (a1) ((0 : Int))) := by kernel_rfl
theorem F19.run (k : Nat) (a0 : Ovi.Rows) (a1 : Ovi.Rows) : C (k + 1) 19 [AV.d (D.list 3 a0), AV.d (D.list 3 a1)] = ite' ((↑(List.length a0) : Int) != (↑(List.length a1) : Int)) (some ([(false, [RL.d (D.bool false)])])) (F19.L4 k (C k)  (k) (a0) (a1) ((0 : Int))) := (show C (k + 1) 19 [AV.d (D.list 3 a0), AV.d (D.list 3 a1)] = evFnK P hs (C k) 19 k Tryz.f19 [AV.d (D.list 3 a0), AV.d (D.list 3 a1)] by kernel_rfl).trans (F19.eq k (C k) a0 a1)
noncomputable def F20.L5 (k : Nat) (call : CallF)  (n : Nat) (v0 : Ovi.Rows) (v1 : Int) (v2 : Int) : Option Res := loopFn P hs call 20 k Tryz.f20 [1, 1, 1, 0, 1, 0] [] n [(0, AV.d (D.list 2 v0)), (1, AV.d (D.int IntKind.i64 v1)), (5, AV.d (D.int IntKind.i64 v2))] []
theorem F20.L5.zero (k : Nat) (call : CallF)  (v0 : Ovi.Rows) (v1 : Int) (v2 : Int) : F20.L5 k call  0 v0 v1 v2 = none := by kernel_rfl
theorem F20.L5.succ (k : Nat) (call : CallF)  (n : Nat) (v0 : Ovi.Rows) (v1 : Int) (v2 : Int) : F20.L5 k call  (n + 1) v0 v1 v2 = ite' (decide (v2 < (↑(List.length v0) : Int))) (ite' (inR v2 (List.length v0)) (bindI (cellI IntKind.i64 v0 v2.toNat 0) fun n8 => bindL (cellL 1 v0 v2.toNat 1) fun l9 => bindR (call 40 [AV.agg [AV.d (D.int IntKind.i64 n8), AV.d (D.list 1 l9)], AV.d (D.int IntKind.i64 v1)]) fun r10 => bindI (resI IntKind.i64 1 false 1 r10 0 0) fun n11 => ite' (decide (n11 < (0 : Int))) (some ([(false, [RL.d (D.int IntKind.i64 (-1 : Int))])])) (F20.L5 k call  (n) (v0) (n11) (IntKind.i64.wrap (v2 + (1 : Int))))) (none)) (some ([(false, [RL.d (D.int IntKind.i64 v1)])])) := by kernel_rfl
theorem F20.eq (k : Nat) (call : CallF) (a0 : Ovi.Rows) (a1 : Int) : evFnK P hs call (20 : FuncId) k Tryz.f20 [AV.d (D.list 2 a0), AV.d (D.int IntKind.i64 a1)] = ite' (decide (IntKind.i64.wrap (a1 - (↑(List.length a0) : Int)) < (0 : Int))) (some ([(false, [RL.d (D.int IntKind.i64 (-1 : Int))])])) (F20.L5 k call  (k) (a0) (IntKind.i64.wrap (a1 - (↑(List.length a0) : Int))) ((0 : Int))) := by kernel_rfl
theorem F20.run (k : Nat) (a0 : Ovi.Rows) (a1 : Int) : C (k + 1) 20 [AV.d (D.list 2 a0), AV.d (D.int IntKind.i64 a1)] = ite' (decide (IntKind.i64.wrap (a1 - (↑(List.length a0) : Int)) < (0 : Int))) (some ([(false, [RL.d (D.int IntKind.i64 (-1 : Int))])])) (F20.L5 k (C k)  (k) (a0) (IntKind.i64.wrap (a1 - (↑(List.length a0) : Int))) ((0 : Int))) := (show C (k + 1) 20 [AV.d (D.list 2 a0), AV.d (D.int IntKind.i64 a1)] = evFnK P hs (C k) 20 k Tryz.f20 [AV.d (D.list 2 a0), AV.d (D.int IntKind.i64 a1)] by kernel_rfl).trans (F20.eq k (C k) a0 a1)
theorem F21.eq (k : Nat) (call : CallF) (a0 : Ovi.Rows) (a1 : Int) : evFnK P hs call (21 : FuncId) k Tryz.f21 [AV.d (D.list 1 a0), AV.d (D.int IntKind.i64 a1)] = ite' (decide (IntKind.i64.wrap (a1 - (↑(List.length a0) : Int)) < (0 : Int))) (some ([(false, [RL.d (D.int IntKind.i64 (-1 : Int))])])) (some ([(false, [RL.d (D.int IntKind.i64 (IntKind.i64.wrap (a1 - (↑(List.length a0) : Int))))])])) := by kernel_rfl
theorem F21.run (k : Nat) (a0 : Ovi.Rows) (a1 : Int) : C (k + 1) 21 [AV.d (D.list 1 a0), AV.d (D.int IntKind.i64 a1)] = ite' (decide (IntKind.i64.wrap (a1 - (↑(List.length a0) : Int)) < (0 : Int))) (some ([(false, [RL.d (D.int IntKind.i64 (-1 : Int))])])) (some ([(false, [RL.d (D.int IntKind.i64 (IntKind.i64.wrap (a1 - (↑(List.length a0) : Int))))])])) := (show C (k + 1) 21 [AV.d (D.list 1 a0), AV.d (D.int IntKind.i64 a1)] = evFnK P hs (C k) 21 k Tryz.f21 [AV.d (D.list 1 a0), AV.d (D.int IntKind.i64 a1)] by kernel_rfl).trans (F21.eq k (C k) a0 a1)
noncomputable def F22.L5 (k : Nat) (call : CallF)  (n : Nat) (v0 : Ovi.Rows) (v1 : Int) (v2 : Int) : Option Res := loopFn P hs call 22 k Tryz.f22 [1, 1, 1, 0, 1, 0] [] n [(0, AV.d (D.list 2 v0)), (1, AV.d (D.int IntKind.i64 v1)), (5, AV.d (D.int IntKind.i64 v2))] []
theorem F22.L5.zero (k : Nat) (call : CallF)  (v0 : Ovi.Rows) (v1 : Int) (v2 : Int) : F22.L5 k call  0 v0 v1 v2 = none := by kernel_rfl
theorem F22.L5.succ (k : Nat) (call : CallF)  (n : Nat) (v0 : Ovi.Rows) (v1 : Int) (v2 : Int) : F22.L5 k call  (n + 1) v0 v1 v2 = ite' (decide (v2 < (↑(List.length v0) : Int))) (ite' (inR v2 (List.length v0)) (bindI (cellI IntKind.i64 v0 v2.toNat 0) fun n8 => bindL (cellL 1 v0 v2.toNat 1) fun l9 => bindR (call 41 [AV.agg [AV.d (D.int IntKind.i64 n8), AV.d (D.list 1 l9)], AV.d (D.int IntKind.i64 v1)]) fun r10 => bindI (resI IntKind.i64 1 false 1 r10 0 0) fun n11 => ite' (decide (n11 < (0 : Int))) (some ([(false, [RL.d (D.int IntKind.i64 (-1 : Int))])])) (F22.L5 k call  (n) (v0) (n11) (IntKind.i64.wrap (v2 + (1 : Int))))) (none)) (some ([(false, [RL.d (D.int IntKind.i64 v1)])])) := by kernel_rfl
theorem F22.eq (k : Nat) (call : CallF) (a0 : Ovi.Rows) (a1 : Int) : evFnK P hs call (22 : FuncId) k Tryz.f22 [AV.d (D.list 2 a0), AV.d (D.int IntKind.i64 a1)] = ite' (decide (IntKind.i64.wrap (a1 - (↑(List.length a0) : Int)) < (0 : Int))) (some ([(false, [RL.d (D.int IntKind.i64 (-1 : Int))])])) (F22.L5 k call  (k) (a0) (IntKind.i64.wrap (a1 - (↑(List.length a0) : Int))) ((0 : Int))) := by kernel_rfl
theorem F22.run (k : Nat) (a0 : Ovi.Rows) (a1 : Int) : C (k + 1) 22 [AV.d (D.list 2 a0), AV.d (D.int IntKind.i64 a1)] = ite' (decide (IntKind.i64.wrap (a1 - (↑(List.length a0) : Int)) < (0 : Int))) (some ([(false, [RL.d (D.int IntKind.i64 (-1 : Int))])])) (F22.L5 k (C k)  (k) (a0) (IntKind.i64.wrap (a1 - (↑(List.length a0) : Int))) ((0 : Int))) := (show C (k + 1) 22 [AV.d (D.list 2 a0), AV.d (D.int IntKind.i64 a1)] = evFnK P hs (C k) 22 k Tryz.f22 [AV.d (D.list 2 a0), AV.d (D.int IntKind.i64 a1)] by kernel_rfl).trans (F22.eq k (C k) a0 a1)
noncomputable def F23.L6 (k : Nat) (call : CallF)  (n : Nat) (v0 : List (List D)) (v1 : Int) (v2 : Ovi.Rows) (v3 : Ovi.Rows) (v4 : Ovi.Rows) : Option Res := loopFn P hs call 23 k Tryz.f23 [1, 1, 1, 1, 0, 1, 0] [] n [(3, AV.var 192 0), (5, AV.d (D.list 1 v0)), (6, AV.own 100006 0), (7, AV.d (D.int IntKind.i64 v1))] [(192, Blk.var [AV.d (D.list 1 v2), AV.d (D.list 2 v3)]), (100006, Blk.arr 26 1 0 v4)]
noncomputable def F23.L10 (k : Nat) (call : CallF) (k6 : Nat) (n : Nat) (v0 : List (List D)) (v1 : Int) (v2 : Int) (v3 : Ovi.Rows) (v4 : Ovi.Rows) (v5 : Ovi.Rows) (v6 : List (List D)) : Option Res := loopFn P hs call 23 k Tryz.f23 [1, 1, 1, 1, 0, 1, 0, 0, 1, 0, 0, 1, 0, 1, 0] [k6] n [(3, AV.var 192 0), (5, AV.d (D.list 1 v0)), (6, AV.own 100006 0), (7, AV.d (D.int IntKind.i64 v1)), (8, AV.own 100008 0), (9, AV.d (D.int IntKind.i64 v2))] [(192, Blk.var [AV.d (D.list 1 v3), AV.d (D.list 2 v4)]), (100006, Blk.arr 26 1 0 v5), (100008, Blk.arr 3 1 0 v6)]
theorem F23.L6.zero (k : Nat) (call : CallF)  (v0 : List (List D)) (v1 : Int) (v2 : Ovi.Rows) (v3 : Ovi.Rows) (v4 : Ovi.Rows) : F23.L6 k call  0 v0 v1 v2 v3 v4 = none := by kernel_rfl
theorem F23.L6.succ (k : Nat) (call : CallF)  (n : Nat) (v0 : List (List D)) (v1 : Int) (v2 : Ovi.Rows) (v3 : Ovi.Rows) (v4 : Ovi.Rows) : F23.L6 k call  (n + 1) v0 v1 v2 v3 v4 = ite' (decide (v1 < (↑(List.length v4) : Int))) (F23.L10 k call n (k) (v0) (v1) ((0 : Int)) (v2) (v3) (v4) ([])) (some ([(false, [RL.d (D.list 1 v0)])])) := by kernel_rfl
theorem F23.L10.zero (k : Nat) (call : CallF) (k6 : Nat) (v0 : List (List D)) (v1 : Int) (v2 : Int) (v3 : Ovi.Rows) (v4 : Ovi.Rows) (v5 : Ovi.Rows) (v6 : List (List D)) : F23.L10 k call k6 0 v0 v1 v2 v3 v4 v5 v6 = none := by kernel_rfl
theorem F23.L10.succ (k : Nat) (call : CallF) (k6 : Nat) (n : Nat) (v0 : List (List D)) (v1 : Int) (v2 : Int) (v3 : Ovi.Rows) (v4 : Ovi.Rows) (v5 : Ovi.Rows) (v6 : List (List D)) : F23.L10 k call k6 (n + 1) v0 v1 v2 v3 v4 v5 v6 = ite' (decide (v2 < (↑(List.length v3) : Int))) (ite' (inR v1 (List.length v5)) (bindL (cellL 1 v5 v1.toNat 0) fun l15 => ite' (inR v2 (List.length v3)) (bindI (cellI IntKind.i64 v3 v2.toNat 0) fun n16 => ite' (inR n16 (List.length l15)) (bindI (cellI IntKind.i64 l15 n16.toNat 0) fun n17 => ite' (fits (v6.length + [[D.int IntKind.i64 n17]].length)) (F23.L10 k call k6 (n) (v0) (v1) (IntKind.i64.wrap (v2 + (1 : Int))) (v3) (v4) (v5) (v6 ++ [[D.int IntKind.i64 n17]])) (none)) (none)) (none)) (none)) (bindR (call 43 [AV.d (D.list 1 v0), AV.d (D.list 1 v6)]) fun r15 => bindL (resL 1 1 false 1 r15 0 0) fun l16 => F23.L6 k call  (k6) (l16) (IntKind.i64.wrap (v1 + (1 : Int))) (v3) (v4) (v5)) := by kernel_rfl
theorem F23.eq (k : Nat) (call : CallF) (a0_0 : Ovi.Rows) (a0_1 : Ovi.Rows) (a1_0 : Ovi.Rows) (a1_1 : Ovi.Rows) : evFnK P hs call (23 : FuncId) k Tryz.f23 [AV.agg [AV.d (D.list 3 a0_0), AV.d (D.list 2 a0_1)], AV.agg [AV.d (D.list 1 a1_0), AV.d (D.list 2 a1_1)]] = bindR (call 33 [AV.d (D.list 3 a0_0), AV.agg [AV.d (D.list 1 a1_0), AV.d (D.list 2 a1_1)]]) fun r6 => bindB (resB 1 false 1 r6 0 0) fun b7 => ite' (!b7) (some ([(false, [RL.nil])])) (bindR (call 42 [AV.agg [AV.d (D.list 3 a0_0), AV.d (D.list 2 a0_1)], AV.d (D.list 2 a1_1)]) fun r8 => bindL (resO 26 1 1 false 1 r8 0 0) fun l9 => F23.L6 k call  (k) ([]) ((0 : Int)) (a1_0) (a1_1) (l9)) := by kernel_rfl
theorem F23.run (k : Nat) (a0_0 : Ovi.Rows) (a0_1 : Ovi.Rows) (a1_0 : Ovi.Rows) (a1_1 : Ovi.Rows) : C (k + 1) 23 [AV.agg [AV.d (D.list 3 a0_0), AV.d (D.list 2 a0_1)], AV.agg [AV.d (D.list 1 a1_0), AV.d (D.list 2 a1_1)]] = bindR ((C k) 33 [AV.d (D.list 3 a0_0), AV.agg [AV.d (D.list 1 a1_0), AV.d (D.list 2 a1_1)]]) fun r6 => bindB (resB 1 false 1 r6 0 0) fun b7 => ite' (!b7) (some ([(false, [RL.nil])])) (bindR ((C k) 42 [AV.agg [AV.d (D.list 3 a0_0), AV.d (D.list 2 a0_1)], AV.d (D.list 2 a1_1)]) fun r8 => bindL (resO 26 1 1 false 1 r8 0 0) fun l9 => F23.L6 k (C k)  (k) ([]) ((0 : Int)) (a1_0) (a1_1) (l9)) := (show C (k + 1) 23 [AV.agg [AV.d (D.list 3 a0_0), AV.d (D.list 2 a0_1)], AV.agg [AV.d (D.list 1 a1_0), AV.d (D.list 2 a1_1)]] = evFnK P hs (C k) 23 k Tryz.f23 [AV.agg [AV.d (D.list 3 a0_0), AV.d (D.list 2 a0_1)], AV.agg [AV.d (D.list 1 a1_0), AV.d (D.list 2 a1_1)]] by kernel_rfl).trans (F23.eq k (C k) a0_0 a0_1 a1_0 a1_1)
noncomputable def F24.L2 (k : Nat) (call : CallF)  (n : Nat) (v0 : Ovi.Rows) (v1 : Ovi.Rows) (v2 : Int) : Option Res := loopFn P hs call 24 k Tryz.f24 [1, 0, 1, 0] [] n [(0, AV.d (D.list 1 v0)), (1, AV.d (D.list 1 v1)), (5, AV.d (D.int IntKind.i64 v2))] []
theorem F24.L2.zero (k : Nat) (call : CallF)  (v0 : Ovi.Rows) (v1 : Ovi.Rows) (v2 : Int) : F24.L2 k call  0 v0 v1 v2 = none := by kernel_rfl
theorem F24.L2.succ (k : Nat) (call : CallF)  (n : Nat) (v0 : Ovi.Rows) (v1 : Ovi.Rows) (v2 : Int) : F24.L2 k call  (n + 1) v0 v1 v2 = ite' (decide (v2 < (↑(List.length v0) : Int))) (ite' (decide (v2 < (↑(List.length v1) : Int))) (ite' (inR v2 (List.length v0)) (bindI (cellI IntKind.i64 v0 v2.toNat 0) fun n8 => ite' (inR v2 (List.length v1)) (bindI (cellI IntKind.i64 v1 v2.toNat 0) fun n9 => ite' (decide (n8 < n9)) (some ([(false, [RL.d (D.int IntKind.i64 (-1 : Int))])])) (ite' (inR v2 (List.length v0)) (bindI (cellI IntKind.i64 v0 v2.toNat 0) fun n10 => ite' (inR v2 (List.length v1)) (bindI (cellI IntKind.i64 v1 v2.toNat 0) fun n11 => ite' (decide (n10 > n11)) (some ([(false, [RL.d (D.int IntKind.i64 (1 : Int))])])) (F24.L2 k call  (n) (v0) (v1) (IntKind.i64.wrap (v2 + (1 : Int))))) (none)) (none))) (none)) (none)) (ite' (decide ((↑(List.length v0) : Int) < (↑(List.length v1) : Int))) (some ([(false, [RL.d (D.int IntKind.i64 (-1 : Int))])])) (ite' (decide ((↑(List.length v0) : Int) > (↑(List.length v1) : Int))) (some ([(false, [RL.d (D.int IntKind.i64 (1 : Int))])])) (some ([(false, [RL.d (D.int IntKind.i64 (0 : Int))])]))))) (ite' (decide ((↑(List.length v0) : Int) < (↑(List.length v1) : Int))) (some ([(false, [RL.d (D.int IntKind.i64 (-1 : Int))])])) (ite' (decide ((↑(List.length v0) : Int) > (↑(List.length v1) : Int))) (some ([(false, [RL.d (D.int IntKind.i64 (1 : Int))])])) (some ([(false, [RL.d (D.int IntKind.i64 (0 : Int))])])))) := by kernel_rfl
theorem F24.eq (k : Nat) (call : CallF) (a0 : Ovi.Rows) (a1 : Ovi.Rows) : evFnK P hs call (24 : FuncId) k Tryz.f24 [AV.d (D.list 1 a0), AV.d (D.list 1 a1)] = F24.L2 k call  (k) (a0) (a1) ((0 : Int)) := by kernel_rfl
theorem F24.run (k : Nat) (a0 : Ovi.Rows) (a1 : Ovi.Rows) : C (k + 1) 24 [AV.d (D.list 1 a0), AV.d (D.list 1 a1)] = F24.L2 k (C k)  (k) (a0) (a1) ((0 : Int)) := (show C (k + 1) 24 [AV.d (D.list 1 a0), AV.d (D.list 1 a1)] = evFnK P hs (C k) 24 k Tryz.f24 [AV.d (D.list 1 a0), AV.d (D.list 1 a1)] by kernel_rfl).trans (F24.eq k (C k) a0 a1)
noncomputable def F25.L3 (k : Nat) (call : CallF)  (n : Nat) (v0 : Ovi.Rows) (v1 : Int) (v2 : Ovi.Rows) : Option Res := loopFn P hs call 25 k Tryz.f25 [1, 1, 0, 1, 0] [] n [(0, AV.d (D.list 2 v0)), (3, AV.own 100003 0), (4, AV.d (D.int IntKind.i64 v1))] [(100003, Blk.arr 81 2 0 v2)]
theorem F25.L3.zero (k : Nat) (call : CallF)  (v0 : Ovi.Rows) (v1 : Int) (v2 : Ovi.Rows) : F25.L3 k call  0 v0 v1 v2 = none := by kernel_rfl
theorem F25.L3.succ (k : Nat) (call : CallF)  (n : Nat) (v0 : Ovi.Rows) (v1 : Int) (v2 : Ovi.Rows) : F25.L3 k call  (n + 1) v0 v1 v2 = ite' (decide (v1 < (↑(List.length v0) : Int))) (ite' (inR v1 (List.length v0)) (bindI (cellI IntKind.i64 v0 v1.toNat 0) fun n7 => bindL (cellL 1 v0 v1.toNat 1) fun l8 => bindR (call 44 [AV.agg [AV.d (D.int IntKind.i64 n7), AV.d (D.list 1 l8)]]) fun r9 => bindI (resI IntKind.i64 1 true 2 r9 0 0) fun n10 => bindL (resO 3 1 1 true 2 r9 0 1) fun l11 => ite' (inR v1 (List.length v2)) (F25.L3 k call  (n) (v0) (IntKind.i64.wrap (v1 + (1 : Int))) (rowsSet v2 v1.toNat 0 [D.int IntKind.i64 n10, D.list 1 l11])) (none)) (none)) (some ([(false, [RL.row 81 2 v2])])) := by kernel_rfl
theorem F25.eq (k : Nat) (call : CallF) (a0 : Ovi.Rows) : evFnK P hs call (25 : FuncId) k Tryz.f25 [AV.d (D.list 2 a0)] = ite' ((↑(List.length a0) : Int) == (↑(List.length a0) : Int)) (ite' (inM (↑(List.length a0) : Int)) (F25.L3 k call  (k) (a0) ((0 : Int)) (rowsOf (↑(List.length a0) : Int) [D.int IntKind.i64 (0 : Int), D.list 1 []])) (none)) (none) := by kernel_rfl
theorem F25.run (k : Nat) (a0 : Ovi.Rows) : C (k + 1) 25 [AV.d (D.list 2 a0)] = ite' ((↑(List.length a0) : Int) == (↑(List.length a0) : Int)) (ite' (inM (↑(List.length a0) : Int)) (F25.L3 k (C k)  (k) (a0) ((0 : Int)) (rowsOf (↑(List.length a0) : Int) [D.int IntKind.i64 (0 : Int), D.list 1 []])) (none)) (none) := (show C (k + 1) 25 [AV.d (D.list 2 a0)] = evFnK P hs (C k) 25 k Tryz.f25 [AV.d (D.list 2 a0)] by kernel_rfl).trans (F25.eq k (C k) a0)
noncomputable def F26.L3 (k : Nat) (call : CallF)  (n : Nat) (v0 : Ovi.Rows) (v1 : Int) (v2 : Ovi.Rows) : Option Res := loopFn P hs call 26 k Tryz.f26 [1, 1, 0, 1, 0] [] n [(0, AV.d (D.list 2 v0)), (3, AV.own 100003 0), (4, AV.d (D.int IntKind.i64 v1))] [(100003, Blk.arr 83 2 0 v2)]
theorem F26.L3.zero (k : Nat) (call : CallF)  (v0 : Ovi.Rows) (v1 : Int) (v2 : Ovi.Rows) : F26.L3 k call  0 v0 v1 v2 = none := by kernel_rfl
theorem F26.L3.succ (k : Nat) (call : CallF)  (n : Nat) (v0 : Ovi.Rows) (v1 : Int) (v2 : Ovi.Rows) : F26.L3 k call  (n + 1) v0 v1 v2 = ite' (decide (v1 < (↑(List.length v0) : Int))) (ite' (inR v1 (List.length v0)) (bindI (cellI IntKind.i64 v0 v1.toNat 0) fun n7 => bindL (cellL 1 v0 v1.toNat 1) fun l8 => bindR (call 45 [AV.agg [AV.d (D.int IntKind.i64 n7), AV.d (D.list 1 l8)]]) fun r9 => bindI (resI IntKind.i64 1 true 2 r9 0 0) fun n10 => bindL (resO 3 1 1 true 2 r9 0 1) fun l11 => ite' (inR v1 (List.length v2)) (F26.L3 k call  (n) (v0) (IntKind.i64.wrap (v1 + (1 : Int))) (rowsSet v2 v1.toNat 0 [D.int IntKind.i64 n10, D.list 1 l11])) (none)) (none)) (some ([(false, [RL.row 83 2 v2])])) := by kernel_rfl
theorem F26.eq (k : Nat) (call : CallF) (a0 : Ovi.Rows) : evFnK P hs call (26 : FuncId) k Tryz.f26 [AV.d (D.list 2 a0)] = ite' ((↑(List.length a0) : Int) == (↑(List.length a0) : Int)) (ite' (inM (↑(List.length a0) : Int)) (F26.L3 k call  (k) (a0) ((0 : Int)) (rowsOf (↑(List.length a0) : Int) [D.int IntKind.i64 (0 : Int), D.list 1 []])) (none)) (none) := by kernel_rfl
theorem F26.run (k : Nat) (a0 : Ovi.Rows) : C (k + 1) 26 [AV.d (D.list 2 a0)] = ite' ((↑(List.length a0) : Int) == (↑(List.length a0) : Int)) (ite' (inM (↑(List.length a0) : Int)) (F26.L3 k (C k)  (k) (a0) ((0 : Int)) (rowsOf (↑(List.length a0) : Int) [D.int IntKind.i64 (0 : Int), D.list 1 []])) (none)) (none) := (show C (k + 1) 26 [AV.d (D.list 2 a0)] = evFnK P hs (C k) 26 k Tryz.f26 [AV.d (D.list 2 a0)] by kernel_rfl).trans (F26.eq k (C k) a0)
theorem F27.eq (k : Nat) (call : CallF) (a0 : Ovi.Rows) (a1 : Ovi.Rows) : evFnK P hs call (27 : FuncId) k Tryz.f27 [AV.d (D.list 1 a0), AV.d (D.list 1 a1)] = bindR (call 46 [AV.d (D.list 1 a0), AV.d (D.fn 47 [[D.list 1 a1]])]) fun r4 => bindB (resB 1 false 1 r4 0 0) fun b5 => some ([(false, [RL.d (D.bool b5)])]) := by kernel_rfl
theorem F27.run (k : Nat) (a0 : Ovi.Rows) (a1 : Ovi.Rows) : C (k + 1) 27 [AV.d (D.list 1 a0), AV.d (D.list 1 a1)] = bindR ((C k) 46 [AV.d (D.list 1 a0), AV.d (D.fn 47 [[D.list 1 a1]])]) fun r4 => bindB (resB 1 false 1 r4 0 0) fun b5 => some ([(false, [RL.d (D.bool b5)])]) := (show C (k + 1) 27 [AV.d (D.list 1 a0), AV.d (D.list 1 a1)] = evFnK P hs (C k) 27 k Tryz.f27 [AV.d (D.list 1 a0), AV.d (D.list 1 a1)] by kernel_rfl).trans (F27.eq k (C k) a0 a1)
theorem F28.eq (k : Nat) (call : CallF) (a0_0 : Ovi.Rows) (a0_1 : Ovi.Rows) (a1_0 : Ovi.Rows) (a1_1 : Ovi.Rows) : evFnK P hs call (28 : FuncId) k Tryz.f28 [AV.agg [AV.d (D.list 3 a0_0), AV.d (D.list 2 a0_1)], AV.agg [AV.d (D.list 1 a1_0), AV.d (D.list 2 a1_1)]] = bindR (call 37 [AV.d (D.list 3 a0_0), AV.agg [AV.d (D.list 1 a1_0), AV.d (D.list 2 a1_1)]]) fun r6 => bindB (resB 1 false 1 r6 0 0) fun b7 => ite' (!b7) (some ([(false, [RL.nil])])) (bindR (call 49 [AV.agg [AV.d (D.list 3 a0_0), AV.d (D.list 2 a0_1)], AV.agg [AV.d (D.list 1 a1_0), AV.d (D.list 2 a1_1)], AV.d (D.fn 50 [])]) fun r8 => bindL (resO 26 1 1 false 1 r8 0 0) fun l9 => some ([(false, [RL.row 26 1 l9])])) := by kernel_rfl
theorem F28.run (k : Nat) (a0_0 : Ovi.Rows) (a0_1 : Ovi.Rows) (a1_0 : Ovi.Rows) (a1_1 : Ovi.Rows) : C (k + 1) 28 [AV.agg [AV.d (D.list 3 a0_0), AV.d (D.list 2 a0_1)], AV.agg [AV.d (D.list 1 a1_0), AV.d (D.list 2 a1_1)]] = bindR ((C k) 37 [AV.d (D.list 3 a0_0), AV.agg [AV.d (D.list 1 a1_0), AV.d (D.list 2 a1_1)]]) fun r6 => bindB (resB 1 false 1 r6 0 0) fun b7 => ite' (!b7) (some ([(false, [RL.nil])])) (bindR ((C k) 49 [AV.agg [AV.d (D.list 3 a0_0), AV.d (D.list 2 a0_1)], AV.agg [AV.d (D.list 1 a1_0), AV.d (D.list 2 a1_1)], AV.d (D.fn 50 [])]) fun r8 => bindL (resO 26 1 1 false 1 r8 0 0) fun l9 => some ([(false, [RL.row 26 1 l9])])) := (show C (k + 1) 28 [AV.agg [AV.d (D.list 3 a0_0), AV.d (D.list 2 a0_1)], AV.agg [AV.d (D.list 1 a1_0), AV.d (D.list 2 a1_1)]] = evFnK P hs (C k) 28 k Tryz.f28 [AV.agg [AV.d (D.list 3 a0_0), AV.d (D.list 2 a0_1)], AV.agg [AV.d (D.list 1 a1_0), AV.d (D.list 2 a1_1)]] by kernel_rfl).trans (F28.eq k (C k) a0_0 a0_1 a1_0 a1_1)
noncomputable def F29.L4 (k : Nat) (call : CallF)  (n : Nat) (v0 : Ovi.Rows) (v1 : Ovi.Rows) (v2 : Int) : Option Res := loopFn P hs call 29 k Tryz.f29 [1, 1, 0, 1, 0] [] n [(0, AV.d (D.list 2 v0)), (1, AV.d (D.list 2 v1)), (5, AV.d (D.int IntKind.i64 v2))] []
theorem F29.L4.zero (k : Nat) (call : CallF)  (v0 : Ovi.Rows) (v1 : Ovi.Rows) (v2 : Int) : F29.L4 k call  0 v0 v1 v2 = none := by kernel_rfl
theorem F29.L4.succ (k : Nat) (call : CallF)  (n : Nat) (v0 : Ovi.Rows) (v1 : Ovi.Rows) (v2 : Int) : F29.L4 k call  (n + 1) v0 v1 v2 = ite' (decide (v2 < (↑(List.length v0) : Int))) (ite' (inR v2 (List.length v0)) (bindI (cellI IntKind.i64 v0 v2.toNat 0) fun n8 => bindL (cellL 1 v0 v2.toNat 1) fun l9 => ite' (inR v2 (List.length v1)) (bindI (cellI IntKind.i64 v1 v2.toNat 0) fun n10 => bindL (cellL 1 v1 v2.toNat 1) fun l11 => bindR (call 51 [AV.agg [AV.d (D.int IntKind.i64 n8), AV.d (D.list 1 l9)], AV.agg [AV.d (D.int IntKind.i64 n10), AV.d (D.list 1 l11)]]) fun r12 => bindB (resB 1 false 1 r12 0 0) fun b13 => ite' (!b13) (some ([(false, [RL.d (D.bool false)])])) (F29.L4 k call  (n) (v0) (v1) (IntKind.i64.wrap (v2 + (1 : Int))))) (none)) (none)) (some ([(false, [RL.d (D.bool true)])])) := by kernel_rfl
theorem F29.eq (k : Nat) (call : CallF) (a0 : Ovi.Rows) (a1 : Ovi.Rows) : evFnK P hs call (29 : FuncId) k Tryz.f29 [AV.d (D.list 2 a0), AV.d (D.list 2 a1)] = ite' ((↑(List.length a0) : Int) != (↑(List.length a1) : Int)) (some ([(false, [RL.d (D.bool false)])])) (F29.L4 k call  (k) (a0) (a1) ((0 : Int))) := by kernel_rfl
theorem F29.run (k : Nat) (a0 : Ovi.Rows) (a1 : Ovi.Rows) : C (k + 1) 29 [AV.d (D.list 2 a0), AV.d (D.list 2 a1)] = ite' ((↑(List.length a0) : Int) != (↑(List.length a1) : Int)) (some ([(false, [RL.d (D.bool false)])])) (F29.L4 k (C k)  (k) (a0) (a1) ((0 : Int))) := (show C (k + 1) 29 [AV.d (D.list 2 a0), AV.d (D.list 2 a1)] = evFnK P hs (C k) 29 k Tryz.f29 [AV.d (D.list 2 a0), AV.d (D.list 2 a1)] by kernel_rfl).trans (F29.eq k (C k) a0 a1)
noncomputable def F30.L4 (k : Nat) (call : CallF)  (n : Nat) (v0 : Ovi.Rows) (v1 : Ovi.Rows) (v2 : Int) : Option Res := loopFn P hs call 30 k Tryz.f30 [1, 1, 0, 1, 0] [] n [(0, AV.d (D.list 2 v0)), (1, AV.d (D.list 2 v1)), (5, AV.d (D.int IntKind.i64 v2))] []
theorem F30.L4.zero (k : Nat) (call : CallF)  (v0 : Ovi.Rows) (v1 : Ovi.Rows) (v2 : Int) : F30.L4 k call  0 v0 v1 v2 = none := by kernel_rfl
theorem F30.L4.succ (k : Nat) (call : CallF)  (n : Nat) (v0 : Ovi.Rows) (v1 : Ovi.Rows) (v2 : Int) : F30.L4 k call  (n + 1) v0 v1 v2 = ite' (decide (v2 < (↑(List.length v0) : Int))) (ite' (inR v2 (List.length v0)) (bindI (cellI IntKind.i64 v0 v2.toNat 0) fun n8 => bindL (cellL 1 v0 v2.toNat 1) fun l9 => ite' (inR v2 (List.length v1)) (bindI (cellI IntKind.i64 v1 v2.toNat 0) fun n10 => bindL (cellL 1 v1 v2.toNat 1) fun l11 => bindR (call 52 [AV.agg [AV.d (D.int IntKind.i64 n8), AV.d (D.list 1 l9)], AV.agg [AV.d (D.int IntKind.i64 n10), AV.d (D.list 1 l11)]]) fun r12 => bindB (resB 1 false 1 r12 0 0) fun b13 => ite' (!b13) (some ([(false, [RL.d (D.bool false)])])) (F30.L4 k call  (n) (v0) (v1) (IntKind.i64.wrap (v2 + (1 : Int))))) (none)) (none)) (some ([(false, [RL.d (D.bool true)])])) := by kernel_rfl
theorem F30.eq (k : Nat) (call : CallF) (a0 : Ovi.Rows) (a1 : Ovi.Rows) : evFnK P hs call (30 : FuncId) k Tryz.f30 [AV.d (D.list 2 a0), AV.d (D.list 2 a1)] = ite' ((↑(List.length a0) : Int) != (↑(List.length a1) : Int)) (some ([(false, [RL.d (D.bool false)])])) (F30.L4 k call  (k) (a0) (a1) ((0 : Int))) := by kernel_rfl
theorem F30.run (k : Nat) (a0 : Ovi.Rows) (a1 : Ovi.Rows) : C (k + 1) 30 [AV.d (D.list 2 a0), AV.d (D.list 2 a1)] = ite' ((↑(List.length a0) : Int) != (↑(List.length a1) : Int)) (some ([(false, [RL.d (D.bool false)])])) (F30.L4 k (C k)  (k) (a0) (a1) ((0 : Int))) := (show C (k + 1) 30 [AV.d (D.list 2 a0), AV.d (D.list 2 a1)] = evFnK P hs (C k) 30 k Tryz.f30 [AV.d (D.list 2 a0), AV.d (D.list 2 a1)] by kernel_rfl).trans (F30.eq k (C k) a0 a1)
theorem F31.eq (k : Nat) (call : CallF) (a0_0 : List UInt8) (a0_1 : Int) (a0_2 : Bool) (a1 : Int) : evFnK P hs call (31 : FuncId) k Tryz.f31 [AV.agg [AV.d (D.str a0_0), AV.d (D.int IntKind.i64 a0_1), AV.d (D.bool a0_2)], AV.d (D.int IntKind.i64 a1)] = ite' (decide (IntKind.i64.wrap (a1 - (↑a0_0.length : Int)) < (0 : Int))) (some ([(false, [RL.d (D.int IntKind.i64 (-1 : Int))])])) (some ([(false, [RL.d (D.int IntKind.i64 (IntKind.i64.wrap (a1 - (↑a0_0.length : Int))))])])) := by kernel_rfl
theorem F31.run (k : Nat) (a0_0 : List UInt8) (a0_1 : Int) (a0_2 : Bool) (a1 : Int) : C (k + 1) 31 [AV.agg [AV.d (D.str a0_0), AV.d (D.int IntKind.i64 a0_1), AV.d (D.bool a0_2)], AV.d (D.int IntKind.i64 a1)] = ite' (decide (IntKind.i64.wrap (a1 - (↑a0_0.length : Int)) < (0 : Int))) (some ([(false, [RL.d (D.int IntKind.i64 (-1 : Int))])])) (some ([(false, [RL.d (D.int IntKind.i64 (IntKind.i64.wrap (a1 - (↑a0_0.length : Int))))])])) := (show C (k + 1) 31 [AV.agg [AV.d (D.str a0_0), AV.d (D.int IntKind.i64 a0_1), AV.d (D.bool a0_2)], AV.d (D.int IntKind.i64 a1)] = evFnK P hs (C k) 31 k Tryz.f31 [AV.agg [AV.d (D.str a0_0), AV.d (D.int IntKind.i64 a0_1), AV.d (D.bool a0_2)], AV.d (D.int IntKind.i64 a1)] by kernel_rfl).trans (F31.eq k (C k) a0_0 a0_1 a0_2 a1)
noncomputable def F33.L3 (k : Nat) (call : CallF)  (n : Nat) (v0 : Ovi.Rows) (v1 : Ovi.Rows) (v2 : Int) (v3 : Ovi.Rows) (v4 : Ovi.Rows) : Option Res := loopFn P hs call 33 k Tryz.f33 [1, 1, 0, 1, 0] [] n [(0, AV.d (D.list 3 v0)), (3, AV.var 192 0), (5, AV.d (D.list 1 v1)), (6, AV.d (D.int IntKind.i64 v2))] [(192, Blk.var [AV.d (D.list 1 v3), AV.d (D.list 2 v4)])]
noncomputable def F33.L8 (k : Nat) (call : CallF)  (n : Nat) (v0 : Ovi.Rows) (v1 : Int) (v2 : Ovi.Rows) (v3 : Ovi.Rows) : Option Res := loopFn P hs call 33 k Tryz.f33 [1, 1, 1, 0, 1, 0] [] n [(3, AV.var 192 0), (5, AV.d (D.list 1 v0)), (7, AV.d (D.int IntKind.i64 v1))] [(192, Blk.var [AV.d (D.list 1 v2), AV.d (D.list 2 v3)])]
theorem F33.L3.zero (k : Nat) (call : CallF)  (v0 : Ovi.Rows) (v1 : Ovi.Rows) (v2 : Int) (v3 : Ovi.Rows) (v4 : Ovi.Rows) : F33.L3 k call  0 v0 v1 v2 v3 v4 = none := by kernel_rfl
theorem F33.L3.succ (k : Nat) (call : CallF)  (n : Nat) (v0 : Ovi.Rows) (v1 : Ovi.Rows) (v2 : Int) (v3 : Ovi.Rows) (v4 : Ovi.Rows) : F33.L3 k call  (n + 1) v0 v1 v2 v3 v4 = ite' (decide (v2 < (↑(List.length v4) : Int))) (ite' (inR v2 (List.length v4)) (bindI (cellI IntKind.i64 v4 v2.toNat 0) fun n11 => bindL (cellL 1 v4 v2.toNat 1) fun l12 => bindR (call 58 [AV.d (D.list 3 v0), AV.agg [AV.d (D.int IntKind.i64 n11), AV.d (D.list 1 l12)]]) fun r13 => bindB (resB 1 false 1 r13 0 0) fun b14 => ite' (!b14) (some ([(false, [RL.d (D.bool false)])])) (F33.L3 k call  (n) (v0) (v1) (IntKind.i64.wrap (v2 + (1 : Int))) (v3) (v4))) (none)) (F33.L8 k call  (k) (v1) ((0 : Int)) (v3) (v4)) := by kernel_rfl
theorem F33.L8.zero (k : Nat) (call : CallF)  (v0 : Ovi.Rows) (v1 : Int) (v2 : Ovi.Rows) (v3 : Ovi.Rows) : F33.L8 k call  0 v0 v1 v2 v3 = none := by kernel_rfl
theorem F33.L8.succ (k : Nat) (call : CallF)  (n : Nat) (v0 : Ovi.Rows) (v1 : Int) (v2 : Ovi.Rows) (v3 : Ovi.Rows) : F33.L8 k call  (n + 1) v0 v1 v2 v3 = ite' (decide (v1 < (↑(List.length v2) : Int))) (ite' (inR v1 (List.length v2)) (bindI (cellI IntKind.i64 v2 v1.toNat 0) fun n10 => bindR (call 59 [AV.d (D.list 1 v0), AV.d (D.int IntKind.i64 n10)]) fun r11 => bindB (resB 1 false 1 r11 0 0) fun b12 => ite' (!b12) (some ([(false, [RL.d (D.bool false)])])) (F33.L8 k call  (n) (v0) (IntKind.i64.wrap (v1 + (1 : Int))) (v2) (v3))) (none)) (bindR (call 60 [AV.d (D.int IntKind.i64 (↑(List.length v3) : Int)), AV.d (D.int IntKind.i64 (1 : Int)), AV.d (D.int IntKind.i64 (3 : Int))]) fun r10 => bindB (resB 1 false 1 r10 0 0) fun b11 => ite' (b11) (some ([(false, [RL.d (D.bool (decide ((↑(List.length v2) : Int) ≤ (3 : Int))))])])) (some ([(false, [RL.d (D.bool false)])]))) := by kernel_rfl
theorem F33.eq (k : Nat) (call : CallF) (a0 : Ovi.Rows) (a1_0 : Ovi.Rows) (a1_1 : Ovi.Rows) : evFnK P hs call (33 : FuncId) k Tryz.f33 [AV.d (D.list 3 a0), AV.agg [AV.d (D.list 1 a1_0), AV.d (D.list 2 a1_1)]] = bindR (call 57 [AV.d (D.list 2 a1_1)]) fun r5 => bindL (resL 1 1 false 1 r5 0 0) fun l6 => F33.L3 k call  (k) (a0) (l6) ((0 : Int)) (a1_0) (a1_1) := by kernel_rfl
theorem F33.run (k : Nat) (a0 : Ovi.Rows) (a1_0 : Ovi.Rows) (a1_1 : Ovi.Rows) : C (k + 1) 33 [AV.d (D.list 3 a0), AV.agg [AV.d (D.list 1 a1_0), AV.d (D.list 2 a1_1)]] = bindR ((C k) 57 [AV.d (D.list 2 a1_1)]) fun r5 => bindL (resL 1 1 false 1 r5 0 0) fun l6 => F33.L3 k (C k)  (k) (a0) (l6) ((0 : Int)) (a1_0) (a1_1) := (show C (k + 1) 33 [AV.d (D.list 3 a0), AV.agg [AV.d (D.list 1 a1_0), AV.d (D.list 2 a1_1)]] = evFnK P hs (C k) 33 k Tryz.f33 [AV.d (D.list 3 a0), AV.agg [AV.d (D.list 1 a1_0), AV.d (D.list 2 a1_1)]] by kernel_rfl).trans (F33.eq k (C k) a0 a1_0 a1_1)
theorem F35.eq (k : Nat) (call : CallF) (a0_0 : List UInt8) (a0_1 : Int) (a0_2 : Bool) : evFnK P hs call (35 : FuncId) k Tryz.f35 [AV.agg [AV.d (D.str a0_0), AV.d (D.int IntKind.i64 a0_1), AV.d (D.bool a0_2)]] = some ([(true, [RL.d (D.str a0_0), RL.d (D.int IntKind.i64 a0_1), RL.d (D.bool a0_2)])]) := by kernel_rfl
theorem F35.run (k : Nat) (a0_0 : List UInt8) (a0_1 : Int) (a0_2 : Bool) : C (k + 1) 35 [AV.agg [AV.d (D.str a0_0), AV.d (D.int IntKind.i64 a0_1), AV.d (D.bool a0_2)]] = some ([(true, [RL.d (D.str a0_0), RL.d (D.int IntKind.i64 a0_1), RL.d (D.bool a0_2)])]) := (show C (k + 1) 35 [AV.agg [AV.d (D.str a0_0), AV.d (D.int IntKind.i64 a0_1), AV.d (D.bool a0_2)]] = evFnK P hs (C k) 35 k Tryz.f35 [AV.agg [AV.d (D.str a0_0), AV.d (D.int IntKind.i64 a0_1), AV.d (D.bool a0_2)]] by kernel_rfl).trans (F35.eq k (C k) a0_0 a0_1 a0_2)
theorem F37.eq (k : Nat) (call : CallF) (a0 : Ovi.Rows) (a1_0 : Ovi.Rows) (a1_1 : Ovi.Rows) : evFnK P hs call (37 : FuncId) k Tryz.f37 [AV.d (D.list 3 a0), AV.agg [AV.d (D.list 1 a1_0), AV.d (D.list 2 a1_1)]] = bindR (call 65 [AV.d (D.list 2 a1_1)]) fun r5 => bindL (resO 3 1 1 false 1 r5 0 0) fun l6 => bindR (call 66 [AV.d (D.list 3 a0), AV.d (D.list 2 a1_1), AV.d (D.int IntKind.i64 (3 : Int))]) fun r7 => bindB (resB 1 false 1 r7 0 0) fun b8 => ite' (b8) (ite' (decide ((↑(List.length a1_0) : Int) ≤ (3 : Int))) (bindR (call 67 [AV.d (D.list 1 a1_0), AV.d (D.fn 68 [[D.list 1 l6]])]) fun r9 => bindB (resB 1 false 1 r9 0 0) fun b10 => some ([(false, [RL.d (D.bool !b10)])])) (some ([(false, [RL.d (D.bool false)])]))) (some ([(false, [RL.d (D.bool false)])])) := by kernel_rfl
theorem F37.run (k : Nat) (a0 : Ovi.Rows) (a1_0 : Ovi.Rows) (a1_1 : Ovi.Rows) : C (k + 1) 37 [AV.d (D.list 3 a0), AV.agg [AV.d (D.list 1 a1_0), AV.d (D.list 2 a1_1)]] = bindR ((C k) 65 [AV.d (D.list 2 a1_1)]) fun r5 => bindL (resO 3 1 1 false 1 r5 0 0) fun l6 => bindR ((C k) 66 [AV.d (D.list 3 a0), AV.d (D.list 2 a1_1), AV.d (D.int IntKind.i64 (3 : Int))]) fun r7 => bindB (resB 1 false 1 r7 0 0) fun b8 => ite' (b8) (ite' (decide ((↑(List.length a1_0) : Int) ≤ (3 : Int))) (bindR ((C k) 67 [AV.d (D.list 1 a1_0), AV.d (D.fn 68 [[D.list 1 l6]])]) fun r9 => bindB (resB 1 false 1 r9 0 0) fun b10 => some ([(false, [RL.d (D.bool !b10)])])) (some ([(false, [RL.d (D.bool false)])]))) (some ([(false, [RL.d (D.bool false)])])) := (show C (k + 1) 37 [AV.d (D.list 3 a0), AV.agg [AV.d (D.list 1 a1_0), AV.d (D.list 2 a1_1)]] = evFnK P hs (C k) 37 k Tryz.f37 [AV.d (D.list 3 a0), AV.agg [AV.d (D.list 1 a1_0), AV.d (D.list 2 a1_1)]] by kernel_rfl).trans (F37.eq k (C k) a0 a1_0 a1_1)
theorem F39.eq (k : Nat) (call : CallF) (a0_0 : List UInt8) (a0_1 : Int) (a0_2 : Bool) (a1_0 : List UInt8) (a1_1 : Int) (a1_2 : Bool) : evFnK P hs call (39 : FuncId) k Tryz.f39 [AV.agg [AV.d (D.str a0_0), AV.d (D.int IntKind.i64 a0_1), AV.d (D.bool a0_2)], AV.agg [AV.d (D.str a1_0), AV.d (D.int IntKind.i64 a1_1), AV.d (D.bool a1_2)]] = ite' (!a0_0 == a1_0) (some ([(false, [RL.d (D.bool false)])])) (ite' (a0_1 != a1_1) (some ([(false, [RL.d (D.bool false)])])) (ite' (!a0_2 == a1_2) (some ([(false, [RL.d (D.bool false)])])) (some ([(false, [RL.d (D.bool true)])])))) := by kernel_rfl
theorem F39.run (k : Nat) (a0_0 : List UInt8) (a0_1 : Int) (a0_2 : Bool) (a1_0 : List UInt8) (a1_1 : Int) (a1_2 : Bool) : C (k + 1) 39 [AV.agg [AV.d (D.str a0_0), AV.d (D.int IntKind.i64 a0_1), AV.d (D.bool a0_2)], AV.agg [AV.d (D.str a1_0), AV.d (D.int IntKind.i64 a1_1), AV.d (D.bool a1_2)]] = ite' (!a0_0 == a1_0) (some ([(false, [RL.d (D.bool false)])])) (ite' (a0_1 != a1_1) (some ([(false, [RL.d (D.bool false)])])) (ite' (!a0_2 == a1_2) (some ([(false, [RL.d (D.bool false)])])) (some ([(false, [RL.d (D.bool true)])])))) := (show C (k + 1) 39 [AV.agg [AV.d (D.str a0_0), AV.d (D.int IntKind.i64 a0_1), AV.d (D.bool a0_2)], AV.agg [AV.d (D.str a1_0), AV.d (D.int IntKind.i64 a1_1), AV.d (D.bool a1_2)]] = evFnK P hs (C k) 39 k Tryz.f39 [AV.agg [AV.d (D.str a0_0), AV.d (D.int IntKind.i64 a0_1), AV.d (D.bool a0_2)], AV.agg [AV.d (D.str a1_0), AV.d (D.int IntKind.i64 a1_1), AV.d (D.bool a1_2)]] by kernel_rfl).trans (F39.eq k (C k) a0_0 a0_1 a0_2 a1_0 a1_1 a1_2)
theorem F40.eq (k : Nat) (call : CallF) (a0_0 : Int) (a0_1 : Ovi.Rows) (a1 : Int) : evFnK P hs call (40 : FuncId) k Tryz.f40 [AV.agg [AV.d (D.int IntKind.i64 a0_0), AV.d (D.list 1 a0_1)], AV.d (D.int IntKind.i64 a1)] = bindR (call 21 [AV.d (D.list 1 a0_1), AV.d (D.int IntKind.i64 a1)]) fun r5 => bindI (resI IntKind.i64 1 false 1 r5 0 0) fun n6 => ite' (decide (n6 < (0 : Int))) (some ([(false, [RL.d (D.int IntKind.i64 (-1 : Int))])])) (some ([(false, [RL.d (D.int IntKind.i64 n6)])])) := by kernel_rfl
theorem F40.run (k : Nat) (a0_0 : Int) (a0_1 : Ovi.Rows) (a1 : Int) : C (k + 1) 40 [AV.agg [AV.d (D.int IntKind.i64 a0_0), AV.d (D.list 1 a0_1)], AV.d (D.int IntKind.i64 a1)] = bindR ((C k) 21 [AV.d (D.list 1 a0_1), AV.d (D.int IntKind.i64 a1)]) fun r5 => bindI (resI IntKind.i64 1 false 1 r5 0 0) fun n6 => ite' (decide (n6 < (0 : Int))) (some ([(false, [RL.d (D.int IntKind.i64 (-1 : Int))])])) (some ([(false, [RL.d (D.int IntKind.i64 n6)])])) := (show C (k + 1) 40 [AV.agg [AV.d (D.int IntKind.i64 a0_0), AV.d (D.list 1 a0_1)], AV.d (D.int IntKind.i64 a1)] = evFnK P hs (C k) 40 k Tryz.f40 [AV.agg [AV.d (D.int IntKind.i64 a0_0), AV.d (D.list 1 a0_1)], AV.d (D.int IntKind.i64 a1)] by kernel_rfl).trans (F40.eq k (C k) a0_0 a0_1 a1)
theorem F41.eq (k : Nat) (call : CallF) (a0_0 : Int) (a0_1 : Ovi.Rows) (a1 : Int) : evFnK P hs call (41 : FuncId) k Tryz.f41 [AV.agg [AV.d (D.int IntKind.i64 a0_0), AV.d (D.list 1 a0_1)], AV.d (D.int IntKind.i64 a1)] = bindR (call 21 [AV.d (D.list 1 a0_1), AV.d (D.int IntKind.i64 a1)]) fun r5 => bindI (resI IntKind.i64 1 false 1 r5 0 0) fun n6 => ite' (decide (n6 < (0 : Int))) (some ([(false, [RL.d (D.int IntKind.i64 (-1 : Int))])])) (some ([(false, [RL.d (D.int IntKind.i64 n6)])])) := by kernel_rfl
theorem F41.run (k : Nat) (a0_0 : Int) (a0_1 : Ovi.Rows) (a1 : Int) : C (k + 1) 41 [AV.agg [AV.d (D.int IntKind.i64 a0_0), AV.d (D.list 1 a0_1)], AV.d (D.int IntKind.i64 a1)] = bindR ((C k) 21 [AV.d (D.list 1 a0_1), AV.d (D.int IntKind.i64 a1)]) fun r5 => bindI (resI IntKind.i64 1 false 1 r5 0 0) fun n6 => ite' (decide (n6 < (0 : Int))) (some ([(false, [RL.d (D.int IntKind.i64 (-1 : Int))])])) (some ([(false, [RL.d (D.int IntKind.i64 n6)])])) := (show C (k + 1) 41 [AV.agg [AV.d (D.int IntKind.i64 a0_0), AV.d (D.list 1 a0_1)], AV.d (D.int IntKind.i64 a1)] = evFnK P hs (C k) 41 k Tryz.f41 [AV.agg [AV.d (D.int IntKind.i64 a0_0), AV.d (D.list 1 a0_1)], AV.d (D.int IntKind.i64 a1)] by kernel_rfl).trans (F41.eq k (C k) a0_0 a0_1 a1)
noncomputable def F42.L6 (k : Nat) (call : CallF)  (n : Nat) (v0 : Int) (v1 : List (List D)) (v2 : Ovi.Rows) : Option Res := loopFn P hs call 42 k Tryz.f42 [1, 1, 1, 1, 0, 1, 0] [] n [(5, AV.own 100005 0), (6, AV.own 100006 0), (7, AV.d (D.int IntKind.i64 v0))] [(100005, Blk.arr 26 1 0 v1), (100006, Blk.arr 26 1 0 v2)]
noncomputable def F42.L10 (k : Nat) (call : CallF) (k6 : Nat) (n : Nat) (v0 : Int) (v1 : Bool) (v2 : Int) (v3 : List (List D)) (v4 : Ovi.Rows) : Option Res := loopFn P hs call 42 k Tryz.f42 [1, 1, 1, 1, 0, 1, 0, 0, 1, 0, 0, 1, 0, 1, 0] [k6] n [(5, AV.own 100005 0), (6, AV.own 100006 0), (7, AV.d (D.int IntKind.i64 v0)), (8, AV.d (D.bool v1)), (9, AV.d (D.int IntKind.i64 v2))] [(100005, Blk.arr 26 1 0 v3), (100006, Blk.arr 26 1 0 v4)]
theorem F42.L6.zero (k : Nat) (call : CallF)  (v0 : Int) (v1 : List (List D)) (v2 : Ovi.Rows) : F42.L6 k call  0 v0 v1 v2 = none := by kernel_rfl
theorem F42.L6.succ (k : Nat) (call : CallF)  (n : Nat) (v0 : Int) (v1 : List (List D)) (v2 : Ovi.Rows) : F42.L6 k call  (n + 1) v0 v1 v2 = ite' (decide (v0 < (↑(List.length v2) : Int))) (F42.L10 k call n (k) (v0) (false) ((0 : Int)) (v1) (v2)) (some ([(false, [RL.row 26 1 v1])])) := by kernel_rfl
theorem F42.L10.zero (k : Nat) (call : CallF) (k6 : Nat) (v0 : Int) (v1 : Bool) (v2 : Int) (v3 : List (List D)) (v4 : Ovi.Rows) : F42.L10 k call k6 0 v0 v1 v2 v3 v4 = none := by kernel_rfl
theorem F42.L10.succ (k : Nat) (call : CallF) (k6 : Nat) (n : Nat) (v0 : Int) (v1 : Bool) (v2 : Int) (v3 : List (List D)) (v4 : Ovi.Rows) : F42.L10 k call k6 (n + 1) v0 v1 v2 v3 v4 = ite' (decide (v2 < (↑v3.length : Int))) (ite' (v1) (F42.L10 k call k6 (n) (v0) (true) (IntKind.i64.wrap (v2 + (1 : Int))) (v3) (v4)) (ite' (inR v2 v3.length) (bindL (cellL 1 v3 v2.toNat 0) fun l12 => ite' (inR v0 (List.length v4)) (bindL (cellL 1 v4 v0.toNat 0) fun l13 => bindR (call 24 [AV.d (D.list 1 l12), AV.d (D.list 1 l13)]) fun r14 => bindI (resI IntKind.i64 1 false 1 r14 0 0) fun n15 => F42.L10 k call k6 (n) (v0) (n15 == (0 : Int)) (IntKind.i64.wrap (v2 + (1 : Int))) (v3) (v4)) (none)) (none))) (ite' (!v1) (ite' (inR v0 (List.length v4)) (bindL (cellL 1 v4 v0.toNat 0) fun l12 => ite' (fits (v3.length + [[D.list 1 l12]].length)) (F42.L6 k call  (k6) (IntKind.i64.wrap (v0 + (1 : Int))) (v3 ++ [[D.list 1 l12]]) (v4)) (none)) (none)) (F42.L6 k call  (k6) (IntKind.i64.wrap (v0 + (1 : Int))) (v3) (v4))) := by kernel_rfl
theorem F42.eq (k : Nat) (call : CallF) (a0_0 : Ovi.Rows) (a0_1 : Ovi.Rows) (a1 : Ovi.Rows) : evFnK P hs call (42 : FuncId) k Tryz.f42 [AV.agg [AV.d (D.list 3 a0_0), AV.d (D.list 2 a0_1)], AV.d (D.list 2 a1)] = bindR (call 70 [AV.agg [AV.d (D.list 3 a0_0), AV.d (D.list 2 a0_1)], AV.d (D.list 2 a1)]) fun r5 => bindB (resB 1 false 1 r5 0 0) fun b6 => ite' (!b6) (some ([(false, [RL.nil])])) (bindR (call 72 []) fun r7 => bindL (resO 3 1 1 false 1 r7 0 0) fun l8 => bindR (call 71 [AV.agg [AV.d (D.list 3 a0_0), AV.d (D.list 2 a0_1)], AV.d (D.list 2 a1), AV.d (D.int IntKind.i64 (0 : Int)), AV.d (D.list 1 l8)]) fun r9 => bindL (resO 26 1 1 false 1 r9 0 0) fun l10 => F42.L6 k call  (k) ((0 : Int)) ([]) (l10)) := by kernel_rfl
theorem F42.run (k : Nat) (a0_0 : Ovi.Rows) (a0_1 : Ovi.Rows) (a1 : Ovi.Rows) : C (k + 1) 42 [AV.agg [AV.d (D.list 3 a0_0), AV.d (D.list 2 a0_1)], AV.d (D.list 2 a1)] = bindR ((C k) 70 [AV.agg [AV.d (D.list 3 a0_0), AV.d (D.list 2 a0_1)], AV.d (D.list 2 a1)]) fun r5 => bindB (resB 1 false 1 r5 0 0) fun b6 => ite' (!b6) (some ([(false, [RL.nil])])) (bindR ((C k) 72 []) fun r7 => bindL (resO 3 1 1 false 1 r7 0 0) fun l8 => bindR ((C k) 71 [AV.agg [AV.d (D.list 3 a0_0), AV.d (D.list 2 a0_1)], AV.d (D.list 2 a1), AV.d (D.int IntKind.i64 (0 : Int)), AV.d (D.list 1 l8)]) fun r9 => bindL (resO 26 1 1 false 1 r9 0 0) fun l10 => F42.L6 k (C k)  (k) ((0 : Int)) ([]) (l10)) := (show C (k + 1) 42 [AV.agg [AV.d (D.list 3 a0_0), AV.d (D.list 2 a0_1)], AV.d (D.list 2 a1)] = evFnK P hs (C k) 42 k Tryz.f42 [AV.agg [AV.d (D.list 3 a0_0), AV.d (D.list 2 a0_1)], AV.d (D.list 2 a1)] by kernel_rfl).trans (F42.eq k (C k) a0_0 a0_1 a1)
noncomputable def F43.L2 (k : Nat) (call : CallF)  (n : Nat) (v0 : Ovi.Rows) (v1 : Ovi.Rows) (v2 : Int) : Option Res := loopFn P hs call 43 k Tryz.f43 [1, 1, 0, 0] [] n [(0, AV.d (D.list 1 v0)), (1, AV.d (D.list 1 v1)), (5, AV.d (D.int IntKind.i64 v2))] []
theorem F43.L2.zero (k : Nat) (call : CallF)  (v0 : Ovi.Rows) (v1 : Ovi.Rows) (v2 : Int) : F43.L2 k call  0 v0 v1 v2 = none := by kernel_rfl
theorem F43.L2.succ (k : Nat) (call : CallF)  (n : Nat) (v0 : Ovi.Rows) (v1 : Ovi.Rows) (v2 : Int) : F43.L2 k call  (n + 1) v0 v1 v2 = ite' (decide (v2 < (↑(List.length v0) : Int))) (ite' (inR v2 (List.length v0)) (bindL (cellL 1 v0 v2.toNat 0) fun l8 => bindR (call 24 [AV.d (D.list 1 l8), AV.d (D.list 1 v1)]) fun r9 => bindI (resI IntKind.i64 1 false 1 r9 0 0) fun n10 => ite' (decide (n10 < (0 : Int))) (F43.L2 k call  (n) (v0) (v1) (IntKind.i64.wrap (v2 + (1 : Int)))) (ite' (decide (v2 < (↑(List.length v0) : Int))) (ite' (inR v2 (List.length v0)) (bindL (cellL 1 v0 v2.toNat 0) fun l11 => bindR (call 24 [AV.d (D.list 1 l11), AV.d (D.list 1 v1)]) fun r12 => bindI (resI IntKind.i64 1 false 1 r12 0 0) fun n13 => ite' (n13 == (0 : Int)) (some ([(false, [RL.d (D.list 1 v0)])])) (ite' (inS v2 (↑(List.length v0) : Int) (List.length v0)) (ite' (fits ([[D.list 1 v1]].length + (List.drop v2.toNat v0).length)) (ite' (inS (0 : Int) v2 (List.length v0)) (ite' (fits (List.take v2.toNat v0).length) (ite' (fits ((List.take v2.toNat v0).length + List.length ([[D.list 1 v1]] ++ List.drop v2.toNat v0))) (some ([(false, [RL.row 26 1 (List.take v2.toNat v0 ++ ([[D.list 1 v1]] ++ List.drop v2.toNat v0))])])) (none)) (none)) (none)) (none)) (none))) (none)) (ite' (inS v2 (↑(List.length v0) : Int) (List.length v0)) (ite' (fits ([[D.list 1 v1]].length + (List.drop v2.toNat v0).length)) (ite' (inS (0 : Int) v2 (List.length v0)) (ite' (fits (List.take v2.toNat v0).length) (ite' (fits ((List.take v2.toNat v0).length + List.length ([[D.list 1 v1]] ++ List.drop v2.toNat v0))) (some ([(false, [RL.row 26 1 (List.take v2.toNat v0 ++ ([[D.list 1 v1]] ++ List.drop v2.toNat v0))])])) (none)) (none)) (none)) (none)) (none)))) (none)) (ite' (decide (v2 < (↑(List.length v0) : Int))) (ite' (inR v2 (List.length v0)) (bindL (cellL 1 v0 v2.toNat 0) fun l8 => bindR (call 24 [AV.d (D.list 1 l8), AV.d (D.list 1 v1)]) fun r9 => bindI (resI IntKind.i64 1 false 1 r9 0 0) fun n10 => ite' (n10 == (0 : Int)) (some ([(false, [RL.d (D.list 1 v0)])])) (ite' (inS v2 (↑(List.length v0) : Int) (List.length v0)) (ite' (fits ([[D.list 1 v1]].length + (List.drop v2.toNat v0).length)) (ite' (inS (0 : Int) v2 (List.length v0)) (ite' (fits (List.take v2.toNat v0).length) (ite' (fits ((List.take v2.toNat v0).length + List.length ([[D.list 1 v1]] ++ List.drop v2.toNat v0))) (some ([(false, [RL.row 26 1 (List.take v2.toNat v0 ++ ([[D.list 1 v1]] ++ List.drop v2.toNat v0))])])) (none)) (none)) (none)) (none)) (none))) (none)) (ite' (inS v2 (↑(List.length v0) : Int) (List.length v0)) (ite' (fits ([[D.list 1 v1]].length + (List.drop v2.toNat v0).length)) (ite' (inS (0 : Int) v2 (List.length v0)) (ite' (fits (List.take v2.toNat v0).length) (ite' (fits ((List.take v2.toNat v0).length + List.length ([[D.list 1 v1]] ++ List.drop v2.toNat v0))) (some ([(false, [RL.row 26 1 (List.take v2.toNat v0 ++ ([[D.list 1 v1]] ++ List.drop v2.toNat v0))])])) (none)) (none)) (none)) (none)) (none))) := by kernel_rfl
theorem F43.eq (k : Nat) (call : CallF) (a0 : Ovi.Rows) (a1 : Ovi.Rows) : evFnK P hs call (43 : FuncId) k Tryz.f43 [AV.d (D.list 1 a0), AV.d (D.list 1 a1)] = F43.L2 k call  (k) (a0) (a1) ((0 : Int)) := by kernel_rfl
theorem F43.run (k : Nat) (a0 : Ovi.Rows) (a1 : Ovi.Rows) : C (k + 1) 43 [AV.d (D.list 1 a0), AV.d (D.list 1 a1)] = F43.L2 k (C k)  (k) (a0) (a1) ((0 : Int)) := (show C (k + 1) 43 [AV.d (D.list 1 a0), AV.d (D.list 1 a1)] = evFnK P hs (C k) 43 k Tryz.f43 [AV.d (D.list 1 a0), AV.d (D.list 1 a1)] by kernel_rfl).trans (F43.eq k (C k) a0 a1)
theorem F44.eq (k : Nat) (call : CallF) (a0_0 : Int) (a0_1 : Ovi.Rows) : evFnK P hs call (44 : FuncId) k Tryz.f44 [AV.agg [AV.d (D.int IntKind.i64 a0_0), AV.d (D.list 1 a0_1)]] = bindR (call 10 [AV.d (D.list 1 a0_1)]) fun r4 => bindL (resO 3 1 1 false 1 r4 0 0) fun l5 => some ([(true, [RL.d (D.int IntKind.i64 a0_0), RL.row 3 1 l5])]) := by kernel_rfl
theorem F44.run (k : Nat) (a0_0 : Int) (a0_1 : Ovi.Rows) : C (k + 1) 44 [AV.agg [AV.d (D.int IntKind.i64 a0_0), AV.d (D.list 1 a0_1)]] = bindR ((C k) 10 [AV.d (D.list 1 a0_1)]) fun r4 => bindL (resO 3 1 1 false 1 r4 0 0) fun l5 => some ([(true, [RL.d (D.int IntKind.i64 a0_0), RL.row 3 1 l5])]) := (show C (k + 1) 44 [AV.agg [AV.d (D.int IntKind.i64 a0_0), AV.d (D.list 1 a0_1)]] = evFnK P hs (C k) 44 k Tryz.f44 [AV.agg [AV.d (D.int IntKind.i64 a0_0), AV.d (D.list 1 a0_1)]] by kernel_rfl).trans (F44.eq k (C k) a0_0 a0_1)
theorem F45.eq (k : Nat) (call : CallF) (a0_0 : Int) (a0_1 : Ovi.Rows) : evFnK P hs call (45 : FuncId) k Tryz.f45 [AV.agg [AV.d (D.int IntKind.i64 a0_0), AV.d (D.list 1 a0_1)]] = bindR (call 10 [AV.d (D.list 1 a0_1)]) fun r4 => bindL (resO 3 1 1 false 1 r4 0 0) fun l5 => some ([(true, [RL.d (D.int IntKind.i64 a0_0), RL.row 3 1 l5])]) := by kernel_rfl
theorem F45.run (k : Nat) (a0_0 : Int) (a0_1 : Ovi.Rows) : C (k + 1) 45 [AV.agg [AV.d (D.int IntKind.i64 a0_0), AV.d (D.list 1 a0_1)]] = bindR ((C k) 10 [AV.d (D.list 1 a0_1)]) fun r4 => bindL (resO 3 1 1 false 1 r4 0 0) fun l5 => some ([(true, [RL.d (D.int IntKind.i64 a0_0), RL.row 3 1 l5])]) := (show C (k + 1) 45 [AV.agg [AV.d (D.int IntKind.i64 a0_0), AV.d (D.list 1 a0_1)]] = evFnK P hs (C k) 45 k Tryz.f45 [AV.agg [AV.d (D.int IntKind.i64 a0_0), AV.d (D.list 1 a0_1)]] by kernel_rfl).trans (F45.eq k (C k) a0_0 a0_1)
theorem F46.eq (k : Nat) (call : CallF) (a0 : Ovi.Rows) (a1 : FuncId) (a1c : Ovi.Rows) : evFnK P hs call (46 : FuncId) k Tryz.f46 [AV.d (D.list 1 a0), AV.d (D.fn a1 a1c)] = bindR (call 73 [AV.d (D.list 1 a0), AV.d (D.fn a1 a1c)]) fun r5 => bindI (resI IntKind.i64 1 false 1 r5 0 0) fun n6 => some ([(false, [RL.d (D.bool (decide (n6 ≥ (0 : Int))))])]) := by kernel_rfl
theorem F46.run (k : Nat) (a0 : Ovi.Rows) (a1 : FuncId) (a1c : Ovi.Rows) : C (k + 1) 46 [AV.d (D.list 1 a0), AV.d (D.fn a1 a1c)] = bindR ((C k) 73 [AV.d (D.list 1 a0), AV.d (D.fn a1 a1c)]) fun r5 => bindI (resI IntKind.i64 1 false 1 r5 0 0) fun n6 => some ([(false, [RL.d (D.bool (decide (n6 ≥ (0 : Int))))])]) := (show C (k + 1) 46 [AV.d (D.list 1 a0), AV.d (D.fn a1 a1c)] = evFnK P hs (C k) 46 k Tryz.f46 [AV.d (D.list 1 a0), AV.d (D.fn a1 a1c)] by kernel_rfl).trans (F46.eq k (C k) a0 a1 a1c)
theorem F47.eq (k : Nat) (call : CallF) (a0 : Ovi.Rows) (c0_0 : Ovi.Rows) : evFnK P hs call (47 : FuncId) k Tryz.f47 [AV.d (D.list 1 a0), AV.cap [D.list 1 c0_0] 0] = bindR (call 48 [AV.d (D.list 1 a0), AV.d (D.list 1 c0_0)]) fun r4 => bindB (resB 1 false 1 r4 0 0) fun b5 => some ([(false, [RL.d (D.bool b5)])]) := by kernel_rfl
theorem F47.run (k : Nat) (a0 : Ovi.Rows) (c0_0 : Ovi.Rows) : C (k + 1) 47 [AV.d (D.list 1 a0), AV.cap [D.list 1 c0_0] 0] = bindR ((C k) 48 [AV.d (D.list 1 a0), AV.d (D.list 1 c0_0)]) fun r4 => bindB (resB 1 false 1 r4 0 0) fun b5 => some ([(false, [RL.d (D.bool b5)])]) := (show C (k + 1) 47 [AV.d (D.list 1 a0), AV.cap [D.list 1 c0_0] 0] = evFnK P hs (C k) 47 k Tryz.f47 [AV.d (D.list 1 a0), AV.cap [D.list 1 c0_0] 0] by kernel_rfl).trans (F47.eq k (C k) a0 c0_0)
noncomputable def F48.L4 (k : Nat) (call : CallF)  (n : Nat) (v0 : Ovi.Rows) (v1 : Ovi.Rows) (v2 : Int) (v3 : Int) : Option Res := loopFn P hs call 48 k Tryz.f48 [1, 1, 0, 1, 0] [] n [(0, AV.d (D.list 1 v0)), (1, AV.d (D.list 1 v1)), (12, AV.d (D.int IntKind.i64 v2)), (13, AV.d (D.int IntKind.i64 v3))] []
theorem F48.L4.zero (k : Nat) (call : CallF)  (v0 : Ovi.Rows) (v1 : Ovi.Rows) (v2 : Int) (v3 : Int) : F48.L4 k call  0 v0 v1 v2 v3 = none := by kernel_rfl
theorem F48.L4.succ (k : Nat) (call : CallF)  (n : Nat) (v0 : Ovi.Rows) (v1 : Ovi.Rows) (v2 : Int) (v3 : Int) : F48.L4 k call  (n + 1) v0 v1 v2 v3 = ite' (decide (v3 < v2)) (ite' (inR v3 (List.length v0)) (bindI (cellI IntKind.i64 v0 v3.toNat 0) fun n9 => ite' (inR v3 (List.length v1)) (bindI (cellI IntKind.i64 v1 v3.toNat 0) fun n10 => ite' (n9 != n10) (some ([(false, [RL.d (D.bool false)])])) (F48.L4 k call  (n) (v0) (v1) (v2) (IntKind.i64.wrap (v3 + (1 : Int))))) (none)) (none)) (some ([(false, [RL.d (D.bool true)])])) := by kernel_rfl
theorem F48.eq (k : Nat) (call : CallF) (a0 : Ovi.Rows) (a1 : Ovi.Rows) : evFnK P hs call (48 : FuncId) k Tryz.f48 [AV.d (D.list 1 a0), AV.d (D.list 1 a1)] = ite' ((↑(List.length a0) : Int) != (↑(List.length a1) : Int)) (some ([(false, [RL.d (D.bool false)])])) (F48.L4 k call  (k) (a0) (a1) ((↑(List.length a0) : Int)) ((0 : Int))) := by kernel_rfl
theorem F48.run (k : Nat) (a0 : Ovi.Rows) (a1 : Ovi.Rows) : C (k + 1) 48 [AV.d (D.list 1 a0), AV.d (D.list 1 a1)] = ite' ((↑(List.length a0) : Int) != (↑(List.length a1) : Int)) (some ([(false, [RL.d (D.bool false)])])) (F48.L4 k (C k)  (k) (a0) (a1) ((↑(List.length a0) : Int)) ((0 : Int))) := (show C (k + 1) 48 [AV.d (D.list 1 a0), AV.d (D.list 1 a1)] = evFnK P hs (C k) 48 k Tryz.f48 [AV.d (D.list 1 a0), AV.d (D.list 1 a1)] by kernel_rfl).trans (F48.eq k (C k) a0 a1)
noncomputable def F49.L3 (k : Nat) (call : CallF)  (n : Nat) (v0 : FuncId) (v1 : Ovi.Rows) (v2 : Int) (v3 : Int) (v4 : Ovi.Rows) (v5 : Ovi.Rows) (v6 : List (List D)) (v7 : Ovi.Rows) : Option Res := loopFn P hs call 49 k Tryz.f49 [1, 1, 0, 1, 0] [] n [(2, AV.d (D.fn v0 v1)), (4, AV.var 256 0), (7, AV.own 100007 0), (17, AV.own 100017 0), (18, AV.d (D.int IntKind.i64 v2)), (19, AV.d (D.int IntKind.i64 v3))] [(256, Blk.var [AV.d (D.list 1 v4), AV.d (D.list 2 v5)]), (100007, Blk.arr 26 1 0 v6), (100017, Blk.arr 26 1 0 v7)]
noncomputable def F49.L8 (k : Nat) (call : CallF) (k3 : Nat) (n : Nat) (v0 : FuncId) (v1 : Ovi.Rows) (v2 : Ovi.Rows) (v3 : Int) (v4 : Int) (v5 : Ovi.Rows) (v6 : Int) (v7 : Int) (v8 : Ovi.Rows) (v9 : Ovi.Rows) (v10 : List (List D)) (v11 : List (List D)) (v12 : Ovi.Rows) : Option Res := loopFn P hs call 49 k Tryz.f49 [1, 1, 0, 1, 0, 0, 1, 1, 0, 0, 1, 1, 1, 0, 1, 0] [k3] n [(2, AV.d (D.fn v0 v1)), (4, AV.var 256 0), (7, AV.own 100007 0), (9, AV.d (D.list 1 v2)), (10, AV.own 100010 0), (17, AV.own 100017 0), (18, AV.d (D.int IntKind.i64 v3)), (19, AV.d (D.int IntKind.i64 v4)), (29, AV.d (D.list 1 v5)), (30, AV.d (D.int IntKind.i64 v6)), (31, AV.d (D.int IntKind.i64 v7))] [(256, Blk.var [AV.d (D.list 1 v8), AV.d (D.list 2 v9)]), (100007, Blk.arr 26 1 0 v10), (100010, Blk.arr 3 1 0 v11), (100017, Blk.arr 26 1 0 v12)]
theorem F49.L3.zero (k : Nat) (call : CallF)  (v0 : FuncId) (v1 : Ovi.Rows) (v2 : Int) (v3 : Int) (v4 : Ovi.Rows) (v5 : Ovi.Rows) (v6 : List (List D)) (v7 : Ovi.Rows) : F49.L3 k call  0 v0 v1 v2 v3 v4 v5 v6 v7 = none := by kernel_rfl
theorem F49.L3.succ (k : Nat) (call : CallF)  (n : Nat) (v0 : FuncId) (v1 : Ovi.Rows) (v2 : Int) (v3 : Int) (v4 : Ovi.Rows) (v5 : Ovi.Rows) (v6 : List (List D)) (v7 : Ovi.Rows) : F49.L3 k call  (n + 1) v0 v1 v2 v3 v4 v5 v6 v7 = ite' (decide (v3 < v2)) (ite' (inR v3 (List.length v7)) (bindL (cellL 1 v7 v3.toNat 0) fun l17 => bindR (call v0 (AV.d (D.list 1 l17) :: [].append (List.map (fun (c : List D) => AV.cap c 0) v1))) fun r18 => bindB (resB 1 false 1 r18 0 0) fun b19 => ite' (!b19) (F49.L3 k call  (n) (v0) (v1) (v2) (IntKind.i64.wrap (v3 + (1 : Int))) (v4) (v5) (v6) (v7)) (F49.L8 k call n (k) (v0) (v1) (l17) (v2) (v3) (v4) ((↑(List.length v4) : Int)) ((0 : Int)) (v4) (v5) (v6) ([]) (v7))) (none)) (bindR (call 75 [AV.var 0 0, AV.d (D.int IntKind.i64 (↑26 : Int)), AV.d (D.list 1 v6)]) fun r17 => bindL (resO 26 1 2 false 1 r17 0 0) fun l18 => some ([(false, [RL.row 26 1 l18])])) := by kernel_rfl
theorem F49.L8.zero (k : Nat) (call : CallF) (k3 : Nat) (v0 : FuncId) (v1 : Ovi.Rows) (v2 : Ovi.Rows) (v3 : Int) (v4 : Int) (v5 : Ovi.Rows) (v6 : Int) (v7 : Int) (v8 : Ovi.Rows) (v9 : Ovi.Rows) (v10 : List (List D)) (v11 : List (List D)) (v12 : Ovi.Rows) : F49.L8 k call k3 0 v0 v1 v2 v3 v4 v5 v6 v7 v8 v9 v10 v11 v12 = none := by kernel_rfl
theorem F49.L8.succ (k : Nat) (call : CallF) (k3 : Nat) (n : Nat) (v0 : FuncId) (v1 : Ovi.Rows) (v2 : Ovi.Rows) (v3 : Int) (v4 : Int) (v5 : Ovi.Rows) (v6 : Int) (v7 : Int) (v8 : Ovi.Rows) (v9 : Ovi.Rows) (v10 : List (List D)) (v11 : List (List D)) (v12 : Ovi.Rows) : F49.L8 k call k3 (n + 1) v0 v1 v2 v3 v4 v5 v6 v7 v8 v9 v10 v11 v12 = ite' (decide (v7 < v6)) (ite' (inR v7 (List.length v5)) (bindI (cellI IntKind.i64 v5 v7.toNat 0) fun n23 => ite' (inR n23 (List.length v2)) (bindI (cellI IntKind.i64 v2 n23.toNat 0) fun n24 => ite' (fits (v11.length + [[D.int IntKind.i64 n24]].length)) (F49.L8 k call k3 (n) (v0) (v1) (v2) (v3) (v4) (v5) (v6) (IntKind.i64.wrap (v7 + (1 : Int))) (v8) (v9) (v10) (v11 ++ [[D.int IntKind.i64 n24]]) (v12)) (none)) (none)) (none)) (ite' (fits (v10.length + [[D.list 1 v11]].length)) (F49.L3 k call  (k3) (v0) (v1) (v3) (IntKind.i64.wrap (v4 + (1 : Int))) (v8) (v9) (v10 ++ [[D.list 1 v11]]) (v12)) (none)) := by kernel_rfl
theorem F49.eq (k : Nat) (call : CallF) (a0_0 : Ovi.Rows) (a0_1 : Ovi.Rows) (a1_0 : Ovi.Rows) (a1_1 : Ovi.Rows) (a2 : FuncId) (a2c : Ovi.Rows) : evFnK P hs call (49 : FuncId) k Tryz.f49 [AV.agg [AV.d (D.list 3 a0_0), AV.d (D.list 2 a0_1)], AV.agg [AV.d (D.list 1 a1_0), AV.d (D.list 2 a1_1)], AV.d (D.fn a2 a2c)] = bindR (call 74 [AV.agg [AV.d (D.list 3 a0_0), AV.d (D.list 2 a0_1)], AV.d (D.list 2 a1_1)]) fun r8 => bindL (resO 26 1 1 false 1 r8 0 0) fun l9 => F49.L3 k call  (k) (a2) (a2c) ((↑(List.length l9) : Int)) ((0 : Int)) (a1_0) (a1_1) ([]) (l9) := by kernel_rfl
theorem F49.run (k : Nat) (a0_0 : Ovi.Rows) (a0_1 : Ovi.Rows) (a1_0 : Ovi.Rows) (a1_1 : Ovi.Rows) (a2 : FuncId) (a2c : Ovi.Rows) : C (k + 1) 49 [AV.agg [AV.d (D.list 3 a0_0), AV.d (D.list 2 a0_1)], AV.agg [AV.d (D.list 1 a1_0), AV.d (D.list 2 a1_1)], AV.d (D.fn a2 a2c)] = bindR ((C k) 74 [AV.agg [AV.d (D.list 3 a0_0), AV.d (D.list 2 a0_1)], AV.d (D.list 2 a1_1)]) fun r8 => bindL (resO 26 1 1 false 1 r8 0 0) fun l9 => F49.L3 k (C k)  (k) (a2) (a2c) ((↑(List.length l9) : Int)) ((0 : Int)) (a1_0) (a1_1) ([]) (l9) := (show C (k + 1) 49 [AV.agg [AV.d (D.list 3 a0_0), AV.d (D.list 2 a0_1)], AV.agg [AV.d (D.list 1 a1_0), AV.d (D.list 2 a1_1)], AV.d (D.fn a2 a2c)] = evFnK P hs (C k) 49 k Tryz.f49 [AV.agg [AV.d (D.list 3 a0_0), AV.d (D.list 2 a0_1)], AV.agg [AV.d (D.list 1 a1_0), AV.d (D.list 2 a1_1)], AV.d (D.fn a2 a2c)] by kernel_rfl).trans (F49.eq k (C k) a0_0 a0_1 a1_0 a1_1 a2 a2c)
theorem F50.eq (k : Nat) (call : CallF) (a0 : Ovi.Rows) : evFnK P hs call (50 : FuncId) k Tryz.f50 [AV.d (D.list 1 a0)] = some ([(false, [RL.d (D.bool true)])]) := by kernel_rfl
theorem F50.run (k : Nat) (a0 : Ovi.Rows) : C (k + 1) 50 [AV.d (D.list 1 a0)] = some ([(false, [RL.d (D.bool true)])]) := (show C (k + 1) 50 [AV.d (D.list 1 a0)] = evFnK P hs (C k) 50 k Tryz.f50 [AV.d (D.list 1 a0)] by kernel_rfl).trans (F50.eq k (C k) a0)
theorem F51.eq (k : Nat) (call : CallF) (a0_0 : Int) (a0_1 : Ovi.Rows) (a1_0 : Int) (a1_1 : Ovi.Rows) : evFnK P hs call (51 : FuncId) k Tryz.f51 [AV.agg [AV.d (D.int IntKind.i64 a0_0), AV.d (D.list 1 a0_1)], AV.agg [AV.d (D.int IntKind.i64 a1_0), AV.d (D.list 1 a1_1)]] = ite' (a0_0 != a1_0) (some ([(false, [RL.d (D.bool false)])])) (bindR (call 14 [AV.d (D.list 1 a0_1), AV.d (D.list 1 a1_1)]) fun r6 => bindB (resB 1 false 1 r6 0 0) fun b7 => ite' (!b7) (some ([(false, [RL.d (D.bool false)])])) (some ([(false, [RL.d (D.bool true)])]))) := by kernel_rfl
theorem F51.run (k : Nat) (a0_0 : Int) (a0_1 : Ovi.Rows) (a1_0 : Int) (a1_1 : Ovi.Rows) : C (k + 1) 51 [AV.agg [AV.d (D.int IntKind.i64 a0_0), AV.d (D.list 1 a0_1)], AV.agg [AV.d (D.int IntKind.i64 a1_0), AV.d (D.list 1 a1_1)]] = ite' (a0_0 != a1_0) (some ([(false, [RL.d (D.bool false)])])) (bindR ((C k) 14 [AV.d (D.list 1 a0_1), AV.d (D.list 1 a1_1)]) fun r6 => bindB (resB 1 false 1 r6 0 0) fun b7 => ite' (!b7) (some ([(false, [RL.d (D.bool false)])])) (some ([(false, [RL.d (D.bool true)])]))) := (show C (k + 1) 51 [AV.agg [AV.d (D.int IntKind.i64 a0_0), AV.d (D.list 1 a0_1)], AV.agg [AV.d (D.int IntKind.i64 a1_0), AV.d (D.list 1 a1_1)]] = evFnK P hs (C k) 51 k Tryz.f51 [AV.agg [AV.d (D.int IntKind.i64 a0_0), AV.d (D.list 1 a0_1)], AV.agg [AV.d (D.int IntKind.i64 a1_0), AV.d (D.list 1 a1_1)]] by kernel_rfl).trans (F51.eq k (C k) a0_0 a0_1 a1_0 a1_1)
theorem F52.eq (k : Nat) (call : CallF) (a0_0 : Int) (a0_1 : Ovi.Rows) (a1_0 : Int) (a1_1 : Ovi.Rows) : evFnK P hs call (52 : FuncId) k Tryz.f52 [AV.agg [AV.d (D.int IntKind.i64 a0_0), AV.d (D.list 1 a0_1)], AV.agg [AV.d (D.int IntKind.i64 a1_0), AV.d (D.list 1 a1_1)]] = ite' (a0_0 != a1_0) (some ([(false, [RL.d (D.bool false)])])) (bindR (call 14 [AV.d (D.list 1 a0_1), AV.d (D.list 1 a1_1)]) fun r6 => bindB (resB 1 false 1 r6 0 0) fun b7 => ite' (!b7) (some ([(false, [RL.d (D.bool false)])])) (some ([(false, [RL.d (D.bool true)])]))) := by kernel_rfl
theorem F52.run (k : Nat) (a0_0 : Int) (a0_1 : Ovi.Rows) (a1_0 : Int) (a1_1 : Ovi.Rows) : C (k + 1) 52 [AV.agg [AV.d (D.int IntKind.i64 a0_0), AV.d (D.list 1 a0_1)], AV.agg [AV.d (D.int IntKind.i64 a1_0), AV.d (D.list 1 a1_1)]] = ite' (a0_0 != a1_0) (some ([(false, [RL.d (D.bool false)])])) (bindR ((C k) 14 [AV.d (D.list 1 a0_1), AV.d (D.list 1 a1_1)]) fun r6 => bindB (resB 1 false 1 r6 0 0) fun b7 => ite' (!b7) (some ([(false, [RL.d (D.bool false)])])) (some ([(false, [RL.d (D.bool true)])]))) := (show C (k + 1) 52 [AV.agg [AV.d (D.int IntKind.i64 a0_0), AV.d (D.list 1 a0_1)], AV.agg [AV.d (D.int IntKind.i64 a1_0), AV.d (D.list 1 a1_1)]] = evFnK P hs (C k) 52 k Tryz.f52 [AV.agg [AV.d (D.int IntKind.i64 a0_0), AV.d (D.list 1 a0_1)], AV.agg [AV.d (D.int IntKind.i64 a1_0), AV.d (D.list 1 a1_1)]] by kernel_rfl).trans (F52.eq k (C k) a0_0 a0_1 a1_0 a1_1)
noncomputable def F55.L2 (k : Nat) (call : CallF)  (n : Nat) (v0 : Int) (v1 : Ovi.Rows) (v2 : Ovi.Rows) : Option Res := loopFn P hs call 55 k Tryz.f55 [1, 0, 1, 0] [] n [(1, AV.var 64 0), (3, AV.d (D.int IntKind.i64 v0))] [(64, Blk.var [AV.d (D.list 3 v1), AV.d (D.list 2 v2)])]
theorem F55.L2.zero (k : Nat) (call : CallF)  (v0 : Int) (v1 : Ovi.Rows) (v2 : Ovi.Rows) : F55.L2 k call  0 v0 v1 v2 = none := by kernel_rfl
theorem F55.L2.succ (k : Nat) (call : CallF)  (n : Nat) (v0 : Int) (v1 : Ovi.Rows) (v2 : Ovi.Rows) : F55.L2 k call  (n + 1) v0 v1 v2 = ite' (decide (v0 < (↑(List.length v2) : Int))) (ite' (inR v0 (List.length v2)) (bindI (cellI IntKind.i64 v2 v0.toNat 0) fun n8 => bindL (cellL 1 v2 v0.toNat 1) fun l9 => bindR (call 80 [AV.d (D.list 3 v1), AV.agg [AV.d (D.int IntKind.i64 n8), AV.d (D.list 1 l9)]]) fun r10 => bindB (resB 1 false 1 r10 0 0) fun b11 => ite' (!b11) (some ([(false, [RL.d (D.bool false)])])) (ite' (decide (v0 > (0 : Int))) (ite' (inR (IntKind.i64.wrap (v0 - (1 : Int))) (List.length v2)) (bindI (cellI IntKind.i64 v2 (IntKind.i64.wrap (v0 - (1 : Int))).toNat 0) fun n12 => bindL (cellL 1 v2 (IntKind.i64.wrap (v0 - (1 : Int))).toNat 1) fun l13 => bindR (call 78 [AV.agg [AV.d (D.int IntKind.i64 n12), AV.d (D.list 1 l13)], AV.agg [AV.d (D.int IntKind.i64 n8), AV.d (D.list 1 l9)]]) fun r14 => bindI (resI IntKind.i64 1 false 1 r14 0 0) fun n15 => ite' (decide (n15 ≥ (0 : Int))) (some ([(false, [RL.d (D.bool false)])])) (ite' (inR n8 (List.length v1)) (bindB (cellB v1 n8.toNat 2) fun b16 => ite' (b16) (bindR (call 81 [AV.agg [AV.d (D.int IntKind.i64 n8), AV.d (D.list 1 l9)]]) fun r17 => bindL (resL 1 1 false 1 r17 0 0) fun l18 => ite' (decide ((↑(List.length l18) : Int) > (0 : Int))) (some ([(false, [RL.d (D.bool false)])])) (F55.L2 k call  (n) (IntKind.i64.wrap (v0 + (1 : Int))) (v1) (v2))) (F55.L2 k call  (n) (IntKind.i64.wrap (v0 + (1 : Int))) (v1) (v2))) (none))) (none)) (ite' (inR n8 (List.length v1)) (bindB (cellB v1 n8.toNat 2) fun b12 => ite' (b12) (bindR (call 81 [AV.agg [AV.d (D.int IntKind.i64 n8), AV.d (D.list 1 l9)]]) fun r13 => bindL (resL 1 1 false 1 r13 0 0) fun l14 => ite' (decide ((↑(List.length l14) : Int) > (0 : Int))) (some ([(false, [RL.d (D.bool false)])])) (F55.L2 k call  (n) (IntKind.i64.wrap (v0 + (1 : Int))) (v1) (v2))) (F55.L2 k call  (n) (IntKind.i64.wrap (v0 + (1 : Int))) (v1) (v2))) (none)))) (none)) (bindR (call 82 [AV.d (D.list 3 v1)]) fun r8 => bindB (resB 1 false 1 r8 0 0) fun b9 => ite' (b9) (some ([(false, [RL.d (D.bool (decide ((↑(List.length v2) : Int) ≤ (30 : Int))))])])) (some ([(false, [RL.d (D.bool false)])]))) := by kernel_rfl
theorem F55.eq (k : Nat) (call : CallF) (a0_0 : Ovi.Rows) (a0_1 : Ovi.Rows) : evFnK P hs call (55 : FuncId) k Tryz.f55 [AV.agg [AV.d (D.list 3 a0_0), AV.d (D.list 2 a0_1)]] = F55.L2 k call  (k) ((0 : Int)) (a0_0) (a0_1) := by kernel_rfl
theorem F55.run (k : Nat) (a0_0 : Ovi.Rows) (a0_1 : Ovi.Rows) : C (k + 1) 55 [AV.agg [AV.d (D.list 3 a0_0), AV.d (D.list 2 a0_1)]] = F55.L2 k (C k)  (k) ((0 : Int)) (a0_0) (a0_1) := (show C (k + 1) 55 [AV.agg [AV.d (D.list 3 a0_0), AV.d (D.list 2 a0_1)]] = evFnK P hs (C k) 55 k Tryz.f55 [AV.agg [AV.d (D.list 3 a0_0), AV.d (D.list 2 a0_1)]] by kernel_rfl).trans (F55.eq k (C k) a0_0 a0_1)
noncomputable def F57.L3 (k : Nat) (call : CallF)  (n : Nat) (v0 : Ovi.Rows) (v1 : List (List D)) (v2 : Int) : Option Res := loopFn P hs call 57 k Tryz.f57 [1, 1, 0, 1, 0] [] n [(0, AV.d (D.list 2 v0)), (3, AV.d (D.list 1 v1)), (4, AV.d (D.int IntKind.i64 v2))] []
noncomputable def F57.L6 (k : Nat) (call : CallF) (k3 : Nat) (n : Nat) (v0 : Ovi.Rows) (v1 : List (List D)) (v2 : Int) (v3 : Int) : Option Res := loopFn P hs call 57 k Tryz.f57 [1, 1, 0, 1, 0, 0, 1, 0, 0, 1, 0] [k3] n [(0, AV.d (D.list 2 v0)), (3, AV.d (D.list 1 v1)), (4, AV.d (D.int IntKind.i64 v2)), (5, AV.d (D.int IntKind.i64 v3))] []
theorem F57.L3.zero (k : Nat) (call : CallF)  (v0 : Ovi.Rows) (v1 : List (List D)) (v2 : Int) : F57.L3 k call  0 v0 v1 v2 = none := by kernel_rfl
theorem F57.L3.succ (k : Nat) (call : CallF)  (n : Nat) (v0 : Ovi.Rows) (v1 : List (List D)) (v2 : Int) : F57.L3 k call  (n + 1) v0 v1 v2 = ite' (decide (v2 < (↑(List.length v0) : Int))) (F57.L6 k call n (k) (v0) (v1) (v2) ((0 : Int))) (some ([(false, [RL.d (D.list 1 v1)])])) := by kernel_rfl
theorem F57.L6.zero (k : Nat) (call : CallF) (k3 : Nat) (v0 : Ovi.Rows) (v1 : List (List D)) (v2 : Int) (v3 : Int) : F57.L6 k call k3 0 v0 v1 v2 v3 = none := by kernel_rfl
theorem F57.L6.succ (k : Nat) (call : CallF) (k3 : Nat) (n : Nat) (v0 : Ovi.Rows) (v1 : List (List D)) (v2 : Int) (v3 : Int) : F57.L6 k call k3 (n + 1) v0 v1 v2 v3 = ite' (inR v2 (List.length v0)) (bindL (cellL 1 v0 v2.toNat 1) fun l9 => ite' (decide (v3 < (↑(List.length l9) : Int))) (ite' (inR v2 (List.length v0)) (bindL (cellL 1 v0 v2.toNat 1) fun l10 => ite' (inR v3 (List.length l10)) (bindI (cellI IntKind.i64 l10 v3.toNat 0) fun n11 => ite' (decide (n11 ≥ (0 : Int))) (ite' (inR v2 (List.length v0)) (bindL (cellL 1 v0 v2.toNat 1) fun l12 => ite' (inR v3 (List.length l12)) (bindI (cellI IntKind.i64 l12 v3.toNat 0) fun n13 => bindR (call 83 [AV.d (D.list 1 v1), AV.d (D.int IntKind.i64 n13)]) fun r14 => bindL (resL 1 1 false 1 r14 0 0) fun l15 => F57.L6 k call k3 (n) (v0) (l15) (v2) (IntKind.i64.wrap (v3 + (1 : Int)))) (none)) (none)) (F57.L6 k call k3 (n) (v0) (v1) (v2) (IntKind.i64.wrap (v3 + (1 : Int))))) (none)) (none)) (F57.L3 k call  (k3) (v0) (v1) (IntKind.i64.wrap (v2 + (1 : Int))))) (none) := by kernel_rfl
theorem F57.eq (k : Nat) (call : CallF) (a0 : Ovi.Rows) : evFnK P hs call (57 : FuncId) k Tryz.f57 [AV.d (D.list 2 a0)] = F57.L3 k call  (k) (a0) ([]) ((0 : Int)) := by kernel_rfl
theorem F57.run (k : Nat) (a0 : Ovi.Rows) : C (k + 1) 57 [AV.d (D.list 2 a0)] = F57.L3 k (C k)  (k) (a0) ([]) ((0 : Int)) := (show C (k + 1) 57 [AV.d (D.list 2 a0)] = evFnK P hs (C k) 57 k Tryz.f57 [AV.d (D.list 2 a0)] by kernel_rfl).trans (F57.eq k (C k) a0)
noncomputable def F58.L4 (k : Nat) (call : CallF)  (n : Nat) (v0 : Int) (v1 : Int) (v2 : Ovi.Rows) : Option Res := loopFn P hs call 58 k Tryz.f58 [1, 1, 0, 1, 0] [] n [(3, AV.var 192 0), (5, AV.d (D.int IntKind.i64 v0))] [(192, Blk.var [AV.d (D.int IntKind.i64 v1), AV.d (D.list 1 v2)])]
theorem F58.L4.zero (k : Nat) (call : CallF)  (v0 : Int) (v1 : Int) (v2 : Ovi.Rows) : F58.L4 k call  0 v0 v1 v2 = none := by kernel_rfl
theorem F58.L4.succ (k : Nat) (call : CallF)  (n : Nat) (v0 : Int) (v1 : Int) (v2 : Ovi.Rows) : F58.L4 k call  (n + 1) v0 v1 v2 = ite' (decide (v0 < (↑(List.length v2) : Int))) (ite' (inR v0 (List.length v2)) (bindI (cellI IntKind.i64 v2 v0.toNat 0) fun n9 => bindR (call 60 [AV.d (D.int IntKind.i64 n9), AV.d (D.int IntKind.i64 (-10 : Int)), AV.d (D.int IntKind.i64 (4 : Int))]) fun r10 => bindB (resB 1 false 1 r10 0 0) fun b11 => ite' (!b11) (some ([(false, [RL.d (D.bool false)])])) (F58.L4 k call  (n) (IntKind.i64.wrap (v0 + (1 : Int))) (v1) (v2))) (none)) (some ([(false, [RL.d (D.bool true)])])) := by kernel_rfl
theorem F58.eq (k : Nat) (call : CallF) (a0 : Ovi.Rows) (a1_0 : Int) (a1_1 : Ovi.Rows) : evFnK P hs call (58 : FuncId) k Tryz.f58 [AV.d (D.list 3 a0), AV.agg [AV.d (D.int IntKind.i64 a1_0), AV.d (D.list 1 a1_1)]] = bindR (call 82 [AV.d (D.list 3 a0)]) fun r5 => bindB (resB 1 false 1 r5 0 0) fun b6 => ite' (!b6) (some ([(false, [RL.d (D.bool false)])])) (bindR (call 60 [AV.d (D.int IntKind.i64 a1_0), AV.d (D.int IntKind.i64 (0 : Int)), AV.d (D.int IntKind.i64 (IntKind.i64.wrap ((↑(List.length a0) : Int) - (1 : Int))))]) fun r7 => bindB (resB 1 false 1 r7 0 0) fun b8 => ite' (!b8) (some ([(false, [RL.d (D.bool false)])])) (ite' (inR a1_0 (List.length a0)) (bindI (cellI IntKind.i64 a0 a1_0.toNat 1) fun n9 => ite' ((↑(List.length a1_1) : Int) != n9) (some ([(false, [RL.d (D.bool false)])])) (F58.L4 k call  (k) ((0 : Int)) (a1_0) (a1_1))) (none))) := by kernel_rfl
theorem F58.run (k : Nat) (a0 : Ovi.Rows) (a1_0 : Int) (a1_1 : Ovi.Rows) : C (k + 1) 58 [AV.d (D.list 3 a0), AV.agg [AV.d (D.int IntKind.i64 a1_0), AV.d (D.list 1 a1_1)]] = bindR ((C k) 82 [AV.d (D.list 3 a0)]) fun r5 => bindB (resB 1 false 1 r5 0 0) fun b6 => ite' (!b6) (some ([(false, [RL.d (D.bool false)])])) (bindR ((C k) 60 [AV.d (D.int IntKind.i64 a1_0), AV.d (D.int IntKind.i64 (0 : Int)), AV.d (D.int IntKind.i64 (IntKind.i64.wrap ((↑(List.length a0) : Int) - (1 : Int))))]) fun r7 => bindB (resB 1 false 1 r7 0 0) fun b8 => ite' (!b8) (some ([(false, [RL.d (D.bool false)])])) (ite' (inR a1_0 (List.length a0)) (bindI (cellI IntKind.i64 a0 a1_0.toNat 1) fun n9 => ite' ((↑(List.length a1_1) : Int) != n9) (some ([(false, [RL.d (D.bool false)])])) (F58.L4 k (C k)  (k) ((0 : Int)) (a1_0) (a1_1))) (none))) := (show C (k + 1) 58 [AV.d (D.list 3 a0), AV.agg [AV.d (D.int IntKind.i64 a1_0), AV.d (D.list 1 a1_1)]] = evFnK P hs (C k) 58 k Tryz.f58 [AV.d (D.list 3 a0), AV.agg [AV.d (D.int IntKind.i64 a1_0), AV.d (D.list 1 a1_1)]] by kernel_rfl).trans (F58.eq k (C k) a0 a1_0 a1_1)
noncomputable def F59.L2 (k : Nat) (call : CallF)  (n : Nat) (v0 : Ovi.Rows) (v1 : Int) (v2 : Int) : Option Res := loopFn P hs call 59 k Tryz.f59 [1, 0, 1, 0] [] n [(0, AV.d (D.list 1 v0)), (1, AV.d (D.int IntKind.i64 v1)), (5, AV.d (D.int IntKind.i64 v2))] []
theorem F59.L2.zero (k : Nat) (call : CallF)  (v0 : Ovi.Rows) (v1 : Int) (v2 : Int) : F59.L2 k call  0 v0 v1 v2 = none := by kernel_rfl
theorem F59.L2.succ (k : Nat) (call : CallF)  (n : Nat) (v0 : Ovi.Rows) (v1 : Int) (v2 : Int) : F59.L2 k call  (n + 1) v0 v1 v2 = ite' (decide (v2 < (↑(List.length v0) : Int))) (ite' (inR v2 (List.length v0)) (bindI (cellI IntKind.i64 v0 v2.toNat 0) fun n8 => ite' (n8 == v1) (some ([(false, [RL.d (D.bool true)])])) (F59.L2 k call  (n) (v0) (v1) (IntKind.i64.wrap (v2 + (1 : Int))))) (none)) (some ([(false, [RL.d (D.bool false)])])) := by kernel_rfl
theorem F59.eq (k : Nat) (call : CallF) (a0 : Ovi.Rows) (a1 : Int) : evFnK P hs call (59 : FuncId) k Tryz.f59 [AV.d (D.list 1 a0), AV.d (D.int IntKind.i64 a1)] = F59.L2 k call  (k) (a0) (a1) ((0 : Int)) := by kernel_rfl
theorem F59.run (k : Nat) (a0 : Ovi.Rows) (a1 : Int) : C (k + 1) 59 [AV.d (D.list 1 a0), AV.d (D.int IntKind.i64 a1)] = F59.L2 k (C k)  (k) (a0) (a1) ((0 : Int)) := (show C (k + 1) 59 [AV.d (D.list 1 a0), AV.d (D.int IntKind.i64 a1)] = evFnK P hs (C k) 59 k Tryz.f59 [AV.d (D.list 1 a0), AV.d (D.int IntKind.i64 a1)] by kernel_rfl).trans (F59.eq k (C k) a0 a1)
theorem F60.eq (k : Nat) (call : CallF) (a0 : Int) (a1 : Int) (a2 : Int) : evFnK P hs call (60 : FuncId) k Tryz.f60 [AV.d (D.int IntKind.i64 a0), AV.d (D.int IntKind.i64 a1), AV.d (D.int IntKind.i64 a2)] = ite' (decide (a0 ≥ a1)) (some ([(false, [RL.d (D.bool (decide (a0 ≤ a2)))])])) (some ([(false, [RL.d (D.bool false)])])) := by kernel_rfl
theorem F60.run (k : Nat) (a0 : Int) (a1 : Int) (a2 : Int) : C (k + 1) 60 [AV.d (D.int IntKind.i64 a0), AV.d (D.int IntKind.i64 a1), AV.d (D.int IntKind.i64 a2)] = ite' (decide (a0 ≥ a1)) (some ([(false, [RL.d (D.bool (decide (a0 ≤ a2)))])])) (some ([(false, [RL.d (D.bool false)])])) := (show C (k + 1) 60 [AV.d (D.int IntKind.i64 a0), AV.d (D.int IntKind.i64 a1), AV.d (D.int IntKind.i64 a2)] = evFnK P hs (C k) 60 k Tryz.f60 [AV.d (D.int IntKind.i64 a0), AV.d (D.int IntKind.i64 a1), AV.d (D.int IntKind.i64 a2)] by kernel_rfl).trans (F60.eq k (C k) a0 a1 a2)
noncomputable def F64.L4 (k : Nat) (call : CallF)  (n : Nat) (v0 : Ovi.Rows) (v1 : Int) (v2 : Int) (v3 : Ovi.Rows) (v4 : Ovi.Rows) : Option Res := loopFn P hs call 64 k Tryz.f64 [1, 1, 0, 1, 0] [] n [(1, AV.var 64 0), (16, AV.d (D.list 2 v0)), (17, AV.d (D.int IntKind.i64 v1)), (18, AV.d (D.int IntKind.i64 v2))] [(64, Blk.var [AV.d (D.list 3 v3), AV.d (D.list 2 v4)])]
theorem F64.L4.zero (k : Nat) (call : CallF)  (v0 : Ovi.Rows) (v1 : Int) (v2 : Int) (v3 : Ovi.Rows) (v4 : Ovi.Rows) : F64.L4 k call  0 v0 v1 v2 v3 v4 = none := by kernel_rfl
theorem F64.L4.succ (k : Nat) (call : CallF)  (n : Nat) (v0 : Ovi.Rows) (v1 : Int) (v2 : Int) (v3 : Ovi.Rows) (v4 : Ovi.Rows) : F64.L4 k call  (n + 1) v0 v1 v2 v3 v4 = ite' (decide (v2 < v1)) (ite' (inR v2 (List.length v0)) (bindI (cellI IntKind.i64 v0 v2.toNat 0) fun n10 => bindL (cellL 1 v0 v2.toNat 1) fun l11 => bindR (call 92 [AV.d (D.list 3 v3), AV.agg [AV.d (D.int IntKind.i64 n10), AV.d (D.list 1 l11)]]) fun r12 => bindB (resB 1 false 1 r12 0 0) fun b13 => ite' (!b13) (some ([(false, [RL.d (D.bool false)])])) (ite' (decide (v2 > (0 : Int))) (ite' (inR (IntKind.i64.wrap (v2 - (1 : Int))) (List.length v4)) (bindI (cellI IntKind.i64 v4 (IntKind.i64.wrap (v2 - (1 : Int))).toNat 0) fun n14 => bindL (cellL 1 v4 (IntKind.i64.wrap (v2 - (1 : Int))).toNat 1) fun l15 => bindR (call 88 [AV.agg [AV.d (D.int IntKind.i64 n14), AV.d (D.list 1 l15)], AV.agg [AV.d (D.int IntKind.i64 n10), AV.d (D.list 1 l11)]]) fun r16 => bindI (resI IntKind.i64 1 false 1 r16 0 0) fun n17 => ite' (decide (n17 ≥ (0 : Int))) (some ([(false, [RL.d (D.bool false)])])) (ite' (inR n10 (List.length v3)) (bindB (cellB v3 n10.toNat 2) fun b18 => ite' (b18) (bindR (call 93 [AV.agg [AV.d (D.int IntKind.i64 n10), AV.d (D.list 1 l11)]]) fun r19 => bindL (resO 3 1 1 false 1 r19 0 0) fun l20 => ite' (decide ((↑(List.length l20) : Int) > (0 : Int))) (some ([(false, [RL.d (D.bool false)])])) (F64.L4 k call  (n) (v0) (v1) (IntKind.i64.wrap (v2 + (1 : Int))) (v3) (v4))) (F64.L4 k call  (n) (v0) (v1) (IntKind.i64.wrap (v2 + (1 : Int))) (v3) (v4))) (none))) (none)) (ite' (inR n10 (List.length v3)) (bindB (cellB v3 n10.toNat 2) fun b14 => ite' (b14) (bindR (call 93 [AV.agg [AV.d (D.int IntKind.i64 n10), AV.d (D.list 1 l11)]]) fun r15 => bindL (resO 3 1 1 false 1 r15 0 0) fun l16 => ite' (decide ((↑(List.length l16) : Int) > (0 : Int))) (some ([(false, [RL.d (D.bool false)])])) (F64.L4 k call  (n) (v0) (v1) (IntKind.i64.wrap (v2 + (1 : Int))) (v3) (v4))) (F64.L4 k call  (n) (v0) (v1) (IntKind.i64.wrap (v2 + (1 : Int))) (v3) (v4))) (none)))) (none)) (some ([(false, [RL.d (D.bool true)])])) := by kernel_rfl
theorem F64.eq (k : Nat) (call : CallF) (a0_0 : Ovi.Rows) (a0_1 : Ovi.Rows) : evFnK P hs call (64 : FuncId) k Tryz.f64 [AV.agg [AV.d (D.list 3 a0_0), AV.d (D.list 2 a0_1)]] = bindR (call 91 [AV.d (D.list 3 a0_0)]) fun r4 => bindB (resB 1 false 1 r4 0 0) fun b5 => ite' (!b5) (some ([(false, [RL.d (D.bool false)])])) (ite' (decide ((↑(List.length a0_1) : Int) > (30 : Int))) (some ([(false, [RL.d (D.bool false)])])) (F64.L4 k call  (k) (a0_1) ((↑(List.length a0_1) : Int)) ((0 : Int)) (a0_0) (a0_1))) := by kernel_rfl
theorem F64.run (k : Nat) (a0_0 : Ovi.Rows) (a0_1 : Ovi.Rows) : C (k + 1) 64 [AV.agg [AV.d (D.list 3 a0_0), AV.d (D.list 2 a0_1)]] = bindR ((C k) 91 [AV.d (D.list 3 a0_0)]) fun r4 => bindB (resB 1 false 1 r4 0 0) fun b5 => ite' (!b5) (some ([(false, [RL.d (D.bool false)])])) (ite' (decide ((↑(List.length a0_1) : Int) > (30 : Int))) (some ([(false, [RL.d (D.bool false)])])) (F64.L4 k (C k)  (k) (a0_1) ((↑(List.length a0_1) : Int)) ((0 : Int)) (a0_0) (a0_1))) := (show C (k + 1) 64 [AV.agg [AV.d (D.list 3 a0_0), AV.d (D.list 2 a0_1)]] = evFnK P hs (C k) 64 k Tryz.f64 [AV.agg [AV.d (D.list 3 a0_0), AV.d (D.list 2 a0_1)]] by kernel_rfl).trans (F64.eq k (C k) a0_0 a0_1)
noncomputable def F65.L3 (k : Nat) (call : CallF)  (n : Nat) (v0 : Ovi.Rows) (v1 : Int) (v2 : Int) (v3 : List (List D)) : Option Res := loopFn P hs call 65 k Tryz.f65 [1, 1, 0, 1, 0] [] n [(3, AV.own 100003 0), (9, AV.d (D.list 2 v0)), (10, AV.d (D.int IntKind.i64 v1)), (11, AV.d (D.int IntKind.i64 v2))] [(100003, Blk.arr 3 1 0 v3)]
noncomputable def F65.L6 (k : Nat) (call : CallF) (k3 : Nat) (n : Nat) (v0 : Ovi.Rows) (v1 : Int) (v2 : Int) (v3 : Ovi.Rows) (v4 : Int) (v5 : Int) (v6 : List (List D)) : Option Res := loopFn P hs call 65 k Tryz.f65 [1, 1, 0, 1, 0, 0, 1, 1, 0, 0, 1, 1, 0] [k3] n [(3, AV.own 100003 0), (9, AV.d (D.list 2 v0)), (10, AV.d (D.int IntKind.i64 v1)), (11, AV.d (D.int IntKind.i64 v2)), (16, AV.d (D.list 1 v3)), (17, AV.d (D.int IntKind.i64 v4)), (18, AV.d (D.int IntKind.i64 v5))] [(100003, Blk.arr 3 1 0 v6)]
theorem F65.L3.zero (k : Nat) (call : CallF)  (v0 : Ovi.Rows) (v1 : Int) (v2 : Int) (v3 : List (List D)) : F65.L3 k call  0 v0 v1 v2 v3 = none := by kernel_rfl
theorem F65.L3.succ (k : Nat) (call : CallF)  (n : Nat) (v0 : Ovi.Rows) (v1 : Int) (v2 : Int) (v3 : List (List D)) : F65.L3 k call  (n + 1) v0 v1 v2 v3 = ite' (decide (v2 < v1)) (ite' (inR v2 (List.length v0)) (bindI (cellI IntKind.i64 v0 v2.toNat 0) fun n8 => bindL (cellL 1 v0 v2.toNat 1) fun l9 => F65.L6 k call n (k) (v0) (v1) (v2) (l9) ((↑(List.length l9) : Int)) ((0 : Int)) (v3)) (none)) (bindR (call 94 [AV.var 0 0, AV.d (D.int IntKind.i64 (↑3 : Int)), AV.d (D.list 1 v3)]) fun r8 => bindL (resO 3 1 1 false 1 r8 0 0) fun l9 => bindR (call 95 [AV.var 0 0, AV.d (D.int IntKind.i64 (↑3 : Int)), AV.d (D.list 1 l9)]) fun r10 => bindL (resO 3 1 2 false 1 r10 0 0) fun l11 => some ([(false, [RL.row 3 1 l11])])) := by kernel_rfl
theorem F65.L6.zero (k : Nat) (call : CallF) (k3 : Nat) (v0 : Ovi.Rows) (v1 : Int) (v2 : Int) (v3 : Ovi.Rows) (v4 : Int) (v5 : Int) (v6 : List (List D)) : F65.L6 k call k3 0 v0 v1 v2 v3 v4 v5 v6 = none := by kernel_rfl
theorem F65.L6.succ (k : Nat) (call : CallF) (k3 : Nat) (n : Nat) (v0 : Ovi.Rows) (v1 : Int) (v2 : Int) (v3 : Ovi.Rows) (v4 : Int) (v5 : Int) (v6 : List (List D)) : F65.L6 k call k3 (n + 1) v0 v1 v2 v3 v4 v5 v6 = ite' (decide (v5 < v4)) (ite' (inR v5 (List.length v3)) (bindI (cellI IntKind.i64 v3 v5.toNat 0) fun n12 => ite' (decide (n12 ≥ (0 : Int))) (ite' (fits (v6.length + [[D.int IntKind.i64 n12]].length)) (F65.L6 k call k3 (n) (v0) (v1) (v2) (v3) (v4) (IntKind.i64.wrap (v5 + (1 : Int))) (v6 ++ [[D.int IntKind.i64 n12]])) (none)) (F65.L6 k call k3 (n) (v0) (v1) (v2) (v3) (v4) (IntKind.i64.wrap (v5 + (1 : Int))) (v6))) (none)) (F65.L3 k call  (k3) (v0) (v1) (IntKind.i64.wrap (v2 + (1 : Int))) (v6)) := by kernel_rfl
theorem F65.eq (k : Nat) (call : CallF) (a0 : Ovi.Rows) : evFnK P hs call (65 : FuncId) k Tryz.f65 [AV.d (D.list 2 a0)] = F65.L3 k call  (k) (a0) ((↑(List.length a0) : Int)) ((0 : Int)) ([]) := by kernel_rfl
theorem F65.run (k : Nat) (a0 : Ovi.Rows) : C (k + 1) 65 [AV.d (D.list 2 a0)] = F65.L3 k (C k)  (k) (a0) ((↑(List.length a0) : Int)) ((0 : Int)) ([]) := (show C (k + 1) 65 [AV.d (D.list 2 a0)] = evFnK P hs (C k) 65 k Tryz.f65 [AV.d (D.list 2 a0)] by kernel_rfl).trans (F65.eq k (C k) a0)
theorem F66.eq (k : Nat) (call : CallF) (a0 : Ovi.Rows) (a1 : Ovi.Rows) (a2 : Int) : evFnK P hs call (66 : FuncId) k Tryz.f66 [AV.d (D.list 3 a0), AV.d (D.list 2 a1), AV.d (D.int IntKind.i64 a2)] = bindR (call 96 [AV.d (D.int IntKind.i64 (↑(List.length a1) : Int)), AV.d (D.int IntKind.i64 (1 : Int)), AV.d (D.int IntKind.i64 a2)]) fun r5 => bindB (resB 1 false 1 r5 0 0) fun b6 => ite' (b6) (bindR (call 97 [AV.d (D.list 2 a1), AV.d (D.fn 98 [[D.list 3 a0]])]) fun r7 => bindB (resB 1 false 1 r7 0 0) fun b8 => some ([(false, [RL.d (D.bool !b8)])])) (some ([(false, [RL.d (D.bool false)])])) := by kernel_rfl
theorem F66.run (k : Nat) (a0 : Ovi.Rows) (a1 : Ovi.Rows) (a2 : Int) : C (k + 1) 66 [AV.d (D.list 3 a0), AV.d (D.list 2 a1), AV.d (D.int IntKind.i64 a2)] = bindR ((C k) 96 [AV.d (D.int IntKind.i64 (↑(List.length a1) : Int)), AV.d (D.int IntKind.i64 (1 : Int)), AV.d (D.int IntKind.i64 a2)]) fun r5 => bindB (resB 1 false 1 r5 0 0) fun b6 => ite' (b6) (bindR ((C k) 97 [AV.d (D.list 2 a1), AV.d (D.fn 98 [[D.list 3 a0]])]) fun r7 => bindB (resB 1 false 1 r7 0 0) fun b8 => some ([(false, [RL.d (D.bool !b8)])])) (some ([(false, [RL.d (D.bool false)])])) := (show C (k + 1) 66 [AV.d (D.list 3 a0), AV.d (D.list 2 a1), AV.d (D.int IntKind.i64 a2)] = evFnK P hs (C k) 66 k Tryz.f66 [AV.d (D.list 3 a0), AV.d (D.list 2 a1), AV.d (D.int IntKind.i64 a2)] by kernel_rfl).trans (F66.eq k (C k) a0 a1 a2)
theorem F67.eq (k : Nat) (call : CallF) (a0 : Ovi.Rows) (a1 : FuncId) (a1c : Ovi.Rows) : evFnK P hs call (67 : FuncId) k Tryz.f67 [AV.d (D.list 1 a0), AV.d (D.fn a1 a1c)] = bindR (call 100 [AV.d (D.list 1 a0), AV.d (D.fn a1 a1c)]) fun r5 => bindI (resI IntKind.i64 1 false 1 r5 0 0) fun n6 => some ([(false, [RL.d (D.bool (decide (n6 ≥ (0 : Int))))])]) := by kernel_rfl
theorem F67.run (k : Nat) (a0 : Ovi.Rows) (a1 : FuncId) (a1c : Ovi.Rows) : C (k + 1) 67 [AV.d (D.list 1 a0), AV.d (D.fn a1 a1c)] = bindR ((C k) 100 [AV.d (D.list 1 a0), AV.d (D.fn a1 a1c)]) fun r5 => bindI (resI IntKind.i64 1 false 1 r5 0 0) fun n6 => some ([(false, [RL.d (D.bool (decide (n6 ≥ (0 : Int))))])]) := (show C (k + 1) 67 [AV.d (D.list 1 a0), AV.d (D.fn a1 a1c)] = evFnK P hs (C k) 67 k Tryz.f67 [AV.d (D.list 1 a0), AV.d (D.fn a1 a1c)] by kernel_rfl).trans (F67.eq k (C k) a0 a1 a1c)
theorem F68.eq (k : Nat) (call : CallF) (a0 : Int) (c0_0 : Ovi.Rows) : evFnK P hs call (68 : FuncId) k Tryz.f68 [AV.d (D.int IntKind.i64 a0), AV.cap [D.list 1 c0_0] 0] = bindR (call 69 [AV.d (D.list 1 c0_0), AV.d (D.int IntKind.i64 a0)]) fun r4 => bindB (resB 1 false 1 r4 0 0) fun b5 => some ([(false, [RL.d (D.bool !b5)])]) := by kernel_rfl
theorem F68.run (k : Nat) (a0 : Int) (c0_0 : Ovi.Rows) : C (k + 1) 68 [AV.d (D.int IntKind.i64 a0), AV.cap [D.list 1 c0_0] 0] = bindR ((C k) 69 [AV.d (D.list 1 c0_0), AV.d (D.int IntKind.i64 a0)]) fun r4 => bindB (resB 1 false 1 r4 0 0) fun b5 => some ([(false, [RL.d (D.bool !b5)])]) := (show C (k + 1) 68 [AV.d (D.int IntKind.i64 a0), AV.cap [D.list 1 c0_0] 0] = evFnK P hs (C k) 68 k Tryz.f68 [AV.d (D.int IntKind.i64 a0), AV.cap [D.list 1 c0_0] 0] by kernel_rfl).trans (F68.eq k (C k) a0 c0_0)
theorem F69.eq (k : Nat) (call : CallF) (a0 : Ovi.Rows) (a1 : Int) : evFnK P hs call (69 : FuncId) k Tryz.f69 [AV.d (D.list 1 a0), AV.d (D.int IntKind.i64 a1)] = bindR (call 101 [AV.d (D.list 1 a0), AV.d (D.int IntKind.i64 a1)]) fun r4 => bindI (resI IntKind.i64 1 false 1 r4 0 0) fun n5 => some ([(false, [RL.d (D.bool (decide (n5 ≥ (0 : Int))))])]) := by kernel_rfl
theorem F69.run (k : Nat) (a0 : Ovi.Rows) (a1 : Int) : C (k + 1) 69 [AV.d (D.list 1 a0), AV.d (D.int IntKind.i64 a1)] = bindR ((C k) 101 [AV.d (D.list 1 a0), AV.d (D.int IntKind.i64 a1)]) fun r4 => bindI (resI IntKind.i64 1 false 1 r4 0 0) fun n5 => some ([(false, [RL.d (D.bool (decide (n5 ≥ (0 : Int))))])]) := (show C (k + 1) 69 [AV.d (D.list 1 a0), AV.d (D.int IntKind.i64 a1)] = evFnK P hs (C k) 69 k Tryz.f69 [AV.d (D.list 1 a0), AV.d (D.int IntKind.i64 a1)] by kernel_rfl).trans (F69.eq k (C k) a0 a1)
noncomputable def F70.L2 (k : Nat) (call : CallF)  (n : Nat) (v0 : Ovi.Rows) (v1 : Int) (v2 : Ovi.Rows) (v3 : Ovi.Rows) : Option Res := loopFn P hs call 70 k Tryz.f70 [1, 0, 1, 0] [] n [(1, AV.d (D.list 2 v0)), (2, AV.var 128 0), (5, AV.d (D.int IntKind.i64 v1))] [(128, Blk.var [AV.d (D.list 3 v2), AV.d (D.list 2 v3)])]
theorem F70.L2.zero (k : Nat) (call : CallF)  (v0 : Ovi.Rows) (v1 : Int) (v2 : Ovi.Rows) (v3 : Ovi.Rows) : F70.L2 k call  0 v0 v1 v2 v3 = none := by kernel_rfl
theorem F70.L2.succ (k : Nat) (call : CallF)  (n : Nat) (v0 : Ovi.Rows) (v1 : Int) (v2 : Ovi.Rows) (v3 : Ovi.Rows) : F70.L2 k call  (n + 1) v0 v1 v2 v3 = ite' (decide (v1 < (↑(List.length v0) : Int))) (ite' (inR v1 (List.length v0)) (bindI (cellI IntKind.i64 v0 v1.toNat 0) fun n10 => bindL (cellL 1 v0 v1.toNat 1) fun l11 => bindR (call 58 [AV.d (D.list 3 v2), AV.agg [AV.d (D.int IntKind.i64 n10), AV.d (D.list 1 l11)]]) fun r12 => bindB (resB 1 false 1 r12 0 0) fun b13 => ite' (!b13) (some ([(false, [RL.d (D.bool false)])])) (F70.L2 k call  (n) (v0) (IntKind.i64.wrap (v1 + (1 : Int))) (v2) (v3))) (none)) (bindR (call 55 [AV.agg [AV.d (D.list 3 v2), AV.d (D.list 2 v3)]]) fun r10 => bindB (resB 1 false 1 r10 0 0) fun b11 => ite' (b11) (some ([(false, [RL.d (D.bool (decide ((↑(List.length v0) : Int) ≤ (3 : Int))))])])) (some ([(false, [RL.d (D.bool false)])]))) := by kernel_rfl
theorem F70.eq (k : Nat) (call : CallF) (a0_0 : Ovi.Rows) (a0_1 : Ovi.Rows) (a1 : Ovi.Rows) : evFnK P hs call (70 : FuncId) k Tryz.f70 [AV.agg [AV.d (D.list 3 a0_0), AV.d (D.list 2 a0_1)], AV.d (D.list 2 a1)] = F70.L2 k call  (k) (a1) ((0 : Int)) (a0_0) (a0_1) := by kernel_rfl
theorem F70.run (k : Nat) (a0_0 : Ovi.Rows) (a0_1 : Ovi.Rows) (a1 : Ovi.Rows) : C (k + 1) 70 [AV.agg [AV.d (D.list 3 a0_0), AV.d (D.list 2 a0_1)], AV.d (D.list 2 a1)] = F70.L2 k (C k)  (k) (a1) ((0 : Int)) (a0_0) (a0_1) := (show C (k + 1) 70 [AV.agg [AV.d (D.list 3 a0_0), AV.d (D.list 2 a0_1)], AV.d (D.list 2 a1)] = evFnK P hs (C k) 70 k Tryz.f70 [AV.agg [AV.d (D.list 3 a0_0), AV.d (D.list 2 a0_1)], AV.d (D.list 2 a1)] by kernel_rfl).trans (F70.eq k (C k) a0_0 a0_1 a1)
noncomputable def F71.L5 (k : Nat) (call : CallF)  (n : Nat) (v0 : Ovi.Rows) (v1 : Int) (v2 : Ovi.Rows) (v3 : Int) (v4 : Ovi.Rows) (v5 : Ovi.Rows) (v6 : List (List D)) : Option Res := loopFn P hs call 71 k Tryz.f71 [1, 1, 1, 0, 1, 0] [] n [(1, AV.d (D.list 2 v0)), (2, AV.d (D.int IntKind.i64 v1)), (3, AV.d (D.list 1 v2)), (4, AV.var 256 0), (9, AV.own 100009 0), (10, AV.d (D.int IntKind.i64 v3))] [(256, Blk.var [AV.d (D.list 3 v4), AV.d (D.list 2 v5)]), (100009, Blk.arr 26 1 0 v6)]
theorem F71.L5.zero (k : Nat) (call : CallF)  (v0 : Ovi.Rows) (v1 : Int) (v2 : Ovi.Rows) (v3 : Int) (v4 : Ovi.Rows) (v5 : Ovi.Rows) (v6 : List (List D)) : F71.L5 k call  0 v0 v1 v2 v3 v4 v5 v6 = none := by kernel_rfl
theorem F71.L5.succ (k : Nat) (call : CallF)  (n : Nat) (v0 : Ovi.Rows) (v1 : Int) (v2 : Ovi.Rows) (v3 : Int) (v4 : Ovi.Rows) (v5 : Ovi.Rows) (v6 : List (List D)) : F71.L5 k call  (n + 1) v0 v1 v2 v3 v4 v5 v6 = ite' (decide (v3 < (↑(List.length v5) : Int))) (ite' (inR v1 (List.length v0)) (bindI (cellI IntKind.i64 v0 v1.toNat 0) fun n15 => bindL (cellL 1 v0 v1.toNat 1) fun l16 => ite' (inR v3 (List.length v5)) (bindI (cellI IntKind.i64 v5 v3.toNat 0) fun n17 => bindL (cellL 1 v5 v3.toNat 1) fun l18 => bindR (call 102 [AV.agg [AV.d (D.int IntKind.i64 n15), AV.d (D.list 1 l16)], AV.agg [AV.d (D.int IntKind.i64 n17), AV.d (D.list 1 l18)], AV.d (D.list 1 v2)]) fun r19 => bindL (resO 3 1 2 false 1 r19 0 0) fun l20 => bindB (resB 2 false 1 r19 1 0) fun b21 => ite' (b21) (bindR (call 71 [AV.agg [AV.d (D.list 3 v4), AV.d (D.list 2 v5)], AV.d (D.list 2 v0), AV.d (D.int IntKind.i64 (IntKind.i64.wrap (v1 + (1 : Int)))), AV.d (D.list 1 l20)]) fun r22 => bindL (resO 26 1 1 false 1 r22 0 0) fun l23 => ite' (fits (v6.length + List.length l23)) (F71.L5 k call  (n) (v0) (v1) (v2) (IntKind.i64.wrap (v3 + (1 : Int))) (v4) (v5) (v6 ++ l23)) (none)) (F71.L5 k call  (n) (v0) (v1) (v2) (IntKind.i64.wrap (v3 + (1 : Int))) (v4) (v5) (v6))) (none)) (none)) (some ([(false, [RL.row 26 1 v6])])) := by kernel_rfl
theorem F71.eq (k : Nat) (call : CallF) (a0_0 : Ovi.Rows) (a0_1 : Ovi.Rows) (a1 : Ovi.Rows) (a2 : Int) (a3 : Ovi.Rows) : evFnK P hs call (71 : FuncId) k Tryz.f71 [AV.agg [AV.d (D.list 3 a0_0), AV.d (D.list 2 a0_1)], AV.d (D.list 2 a1), AV.d (D.int IntKind.i64 a2), AV.d (D.list 1 a3)] = ite' (a2 == (↑(List.length a1) : Int)) (ite' (fits (List.length a3)) (some ([(false, [RL.row 26 1 [[D.list 1 a3]]])])) (none)) (F71.L5 k call  (k) (a1) (a2) (a3) ((0 : Int)) (a0_0) (a0_1) ([])) := by kernel_rfl
theorem F71.run (k : Nat) (a0_0 : Ovi.Rows) (a0_1 : Ovi.Rows) (a1 : Ovi.Rows) (a2 : Int) (a3 : Ovi.Rows) : C (k + 1) 71 [AV.agg [AV.d (D.list 3 a0_0), AV.d (D.list 2 a0_1)], AV.d (D.list 2 a1), AV.d (D.int IntKind.i64 a2), AV.d (D.list 1 a3)] = ite' (a2 == (↑(List.length a1) : Int)) (ite' (fits (List.length a3)) (some ([(false, [RL.row 26 1 [[D.list 1 a3]]])])) (none)) (F71.L5 k (C k)  (k) (a1) (a2) (a3) ((0 : Int)) (a0_0) (a0_1) ([])) := (show C (k + 1) 71 [AV.agg [AV.d (D.list 3 a0_0), AV.d (D.list 2 a0_1)], AV.d (D.list 2 a1), AV.d (D.int IntKind.i64 a2), AV.d (D.list 1 a3)] = evFnK P hs (C k) 71 k Tryz.f71 [AV.agg [AV.d (D.list 3 a0_0), AV.d (D.list 2 a0_1)], AV.d (D.list 2 a1), AV.d (D.int IntKind.i64 a2), AV.d (D.list 1 a3)] by kernel_rfl).trans (F71.eq k (C k) a0_0 a0_1 a1 a2 a3)
noncomputable def F72.L2 (k : Nat) (call : CallF)  (n : Nat) (v0 : List (List D)) : Option Res := loopFn P hs call 72 k Tryz.f72 [1, 1, 0, 0] [] n [(1, AV.own 100001 0)] [(100001, Blk.arr 3 1 0 v0)]
theorem F72.L2.zero (k : Nat) (call : CallF)  (v0 : List (List D)) : F72.L2 k call  0 v0 = none := by kernel_rfl
theorem F72.L2.succ (k : Nat) (call : CallF)  (n : Nat) (v0 : List (List D)) : F72.L2 k call  (n + 1) v0 = ite' (decide ((↑v0.length : Int) < (5 : Int))) (bindR (call 103 []) fun r4 => bindI (resI IntKind.i64 1 false 1 r4 0 0) fun n5 => ite' (fits (v0.length + [[D.int IntKind.i64 n5]].length)) (F72.L2 k call  (n) (v0 ++ [[D.int IntKind.i64 n5]])) (none)) (some ([(false, [RL.row 3 1 v0])])) := by kernel_rfl
theorem F72.eq (k : Nat) (call : CallF)  : evFnK P hs call (72 : FuncId) k Tryz.f72 [] = F72.L2 k call  (k) ([]) := by kernel_rfl
theorem F72.run (k : Nat)  : C (k + 1) 72 [] = F72.L2 k (C k)  (k) ([]) := (show C (k + 1) 72 [] = evFnK P hs (C k) 72 k Tryz.f72 [] by kernel_rfl).trans (F72.eq k (C k) )
noncomputable def F73.L2 (k : Nat) (call : CallF)  (n : Nat) (v0 : Ovi.Rows) (v1 : FuncId) (v2 : Ovi.Rows) (v3 : Int) (v4 : Int) : Option Res := loopFn P hs call 73 k Tryz.f73 [1, 0, 1, 0] [] n [(0, AV.d (D.list 1 v0)), (1, AV.d (D.fn v1 v2)), (7, AV.d (D.int IntKind.i64 v3)), (8, AV.d (D.int IntKind.i64 v4))] []
theorem F73.L2.zero (k : Nat) (call : CallF)  (v0 : Ovi.Rows) (v1 : FuncId) (v2 : Ovi.Rows) (v3 : Int) (v4 : Int) : F73.L2 k call  0 v0 v1 v2 v3 v4 = none := by kernel_rfl
theorem F73.L2.succ (k : Nat) (call : CallF)  (n : Nat) (v0 : Ovi.Rows) (v1 : FuncId) (v2 : Ovi.Rows) (v3 : Int) (v4 : Int) : F73.L2 k call  (n + 1) v0 v1 v2 v3 v4 = ite' (decide (v4 < v3)) (ite' (inR v4 (List.length v0)) (bindL (cellL 1 v0 v4.toNat 0) fun l11 => bindR (call v1 (AV.d (D.list 1 l11) :: [].append (List.map (fun (c : List D) => AV.cap c 0) v2))) fun r12 => bindB (resB 1 false 1 r12 0 0) fun b13 => ite' (b13) (some ([(false, [RL.d (D.int IntKind.i64 v4)])])) (F73.L2 k call  (n) (v0) (v1) (v2) (v3) (IntKind.i64.wrap (v4 + (1 : Int))))) (none)) (some ([(false, [RL.d (D.int IntKind.i64 (-1 : Int))])])) := by kernel_rfl
theorem F73.eq (k : Nat) (call : CallF) (a0 : Ovi.Rows) (a1 : FuncId) (a1c : Ovi.Rows) : evFnK P hs call (73 : FuncId) k Tryz.f73 [AV.d (D.list 1 a0), AV.d (D.fn a1 a1c)] = F73.L2 k call  (k) (a0) (a1) (a1c) ((↑(List.length a0) : Int)) ((0 : Int)) := by kernel_rfl
theorem F73.run (k : Nat) (a0 : Ovi.Rows) (a1 : FuncId) (a1c : Ovi.Rows) : C (k + 1) 73 [AV.d (D.list 1 a0), AV.d (D.fn a1 a1c)] = F73.L2 k (C k)  (k) (a0) (a1) (a1c) ((↑(List.length a0) : Int)) ((0 : Int)) := (show C (k + 1) 73 [AV.d (D.list 1 a0), AV.d (D.fn a1 a1c)] = evFnK P hs (C k) 73 k Tryz.f73 [AV.d (D.list 1 a0), AV.d (D.fn a1 a1c)] by kernel_rfl).trans (F73.eq k (C k) a0 a1 a1c)
noncomputable def F74.L5 (k : Nat) (call : CallF)  (n : Nat) (v0 : Int) (v1 : Int) (v2 : List (List D)) (v3 : Ovi.Rows) : Option Res := loopFn P hs call 74 k Tryz.f74 [1, 1, 1, 0, 1, 0] [] n [(5, AV.own 100005 0), (18, AV.own 100018 0), (19, AV.d (D.int IntKind.i64 v0)), (20, AV.d (D.int IntKind.i64 v1))] [(100005, Blk.arr 26 1 0 v2), (100018, Blk.arr 26 1 0 v3)]
theorem F74.L5.zero (k : Nat) (call : CallF)  (v0 : Int) (v1 : Int) (v2 : List (List D)) (v3 : Ovi.Rows) : F74.L5 k call  0 v0 v1 v2 v3 = none := by kernel_rfl
theorem F74.L5.succ (k : Nat) (call : CallF)  (n : Nat) (v0 : Int) (v1 : Int) (v2 : List (List D)) (v3 : Ovi.Rows) : F74.L5 k call  (n + 1) v0 v1 v2 v3 = ite' (decide (v1 < v0)) (ite' (inR v1 (List.length v3)) (bindL (cellL 1 v3 v1.toNat 0) fun l10 => bindR (call 27 [AV.d (D.list 1 v2), AV.d (D.list 1 l10)]) fun r11 => bindB (resB 1 false 1 r11 0 0) fun b12 => ite' (!b12) (ite' (fits (v2.length + [[D.list 1 l10]].length)) (F74.L5 k call  (n) (v0) (IntKind.i64.wrap (v1 + (1 : Int))) (v2 ++ [[D.list 1 l10]]) (v3)) (none)) (F74.L5 k call  (n) (v0) (IntKind.i64.wrap (v1 + (1 : Int))) (v2) (v3))) (none)) (some ([(false, [RL.row 26 1 v2])])) := by kernel_rfl
theorem F74.eq (k : Nat) (call : CallF) (a0_0 : Ovi.Rows) (a0_1 : Ovi.Rows) (a1 : Ovi.Rows) : evFnK P hs call (74 : FuncId) k Tryz.f74 [AV.agg [AV.d (D.list 3 a0_0), AV.d (D.list 2 a0_1)], AV.d (D.list 2 a1)] = bindR (call 104 [AV.agg [AV.d (D.list 3 a0_0), AV.d (D.list 2 a0_1)], AV.d (D.list 2 a1)]) fun r5 => bindB (resB 1 false 1 r5 0 0) fun b6 => ite' (!b6) (some ([(false, [RL.nil])])) (bindR (call 106 []) fun r7 => bindL (resO 3 1 1 false 1 r7 0 0) fun l8 => bindR (call 105 [AV.d (D.list 2 a0_1), AV.d (D.list 2 a1), AV.d (D.list 1 l8)]) fun r9 => bindL (resO 26 1 1 false 1 r9 0 0) fun l10 => F74.L5 k call  (k) ((↑(List.length l10) : Int)) ((0 : Int)) ([]) (l10)) := by kernel_rfl
theorem F74.run (k : Nat) (a0_0 : Ovi.Rows) (a0_1 : Ovi.Rows) (a1 : Ovi.Rows) : C (k + 1) 74 [AV.agg [AV.d (D.list 3 a0_0), AV.d (D.list 2 a0_1)], AV.d (D.list 2 a1)] = bindR ((C k) 104 [AV.agg [AV.d (D.list 3 a0_0), AV.d (D.list 2 a0_1)], AV.d (D.list 2 a1)]) fun r5 => bindB (resB 1 false 1 r5 0 0) fun b6 => ite' (!b6) (some ([(false, [RL.nil])])) (bindR ((C k) 106 []) fun r7 => bindL (resO 3 1 1 false 1 r7 0 0) fun l8 => bindR ((C k) 105 [AV.d (D.list 2 a0_1), AV.d (D.list 2 a1), AV.d (D.list 1 l8)]) fun r9 => bindL (resO 26 1 1 false 1 r9 0 0) fun l10 => F74.L5 k (C k)  (k) ((↑(List.length l10) : Int)) ((0 : Int)) ([]) (l10)) := (show C (k + 1) 74 [AV.agg [AV.d (D.list 3 a0_0), AV.d (D.list 2 a0_1)], AV.d (D.list 2 a1)] = evFnK P hs (C k) 74 k Tryz.f74 [AV.agg [AV.d (D.list 3 a0_0), AV.d (D.list 2 a0_1)], AV.d (D.list 2 a1)] by kernel_rfl).trans (F74.eq k (C k) a0_0 a0_1 a1)
theorem F76.eq (k : Nat) (call : CallF) (a0 : Int) : evFnK P hs call (76 : FuncId) k Tryz.f76 [AV.d (D.int IntKind.i64 a0)] = bindR (call 110 [AV.d (D.int IntKind.i64 a0)]) fun r3 => bindI (resI IntKind.i64 2 false 1 r3 0 0) fun n4 => bindB (resB 2 false 1 r3 1 0) fun b5 => ite' (b5) (some ([(false, [RL.d (D.bool true)])])) (bindR (call 60 [AV.d (D.int IntKind.i64 a0), AV.d (D.int IntKind.i64 (0 : Int)), AV.d (D.int IntKind.i64 (9 : Int))]) fun r6 => bindB (resB 1 false 1 r6 0 0) fun b7 => some ([(false, [RL.d (D.bool b7)])])) := by kernel_rfl
theorem F76.run (k : Nat) (a0 : Int) : C (k + 1) 76 [AV.d (D.int IntKind.i64 a0)] = bindR ((C k) 110 [AV.d (D.int IntKind.i64 a0)]) fun r3 => bindI (resI IntKind.i64 2 false 1 r3 0 0) fun n4 => bindB (resB 2 false 1 r3 1 0) fun b5 => ite' (b5) (some ([(false, [RL.d (D.bool true)])])) (bindR ((C k) 60 [AV.d (D.int IntKind.i64 a0), AV.d (D.int IntKind.i64 (0 : Int)), AV.d (D.int IntKind.i64 (9 : Int))]) fun r6 => bindB (resB 1 false 1 r6 0 0) fun b7 => some ([(false, [RL.d (D.bool b7)])])) := (show C (k + 1) 76 [AV.d (D.int IntKind.i64 a0)] = evFnK P hs (C k) 76 k Tryz.f76 [AV.d (D.int IntKind.i64 a0)] by kernel_rfl).trans (F76.eq k (C k) a0)
theorem F78.eq (k : Nat) (call : CallF) (a0_0 : Int) (a0_1 : Ovi.Rows) (a1_0 : Int) (a1_1 : Ovi.Rows) : evFnK P hs call (78 : FuncId) k Tryz.f78 [AV.agg [AV.d (D.int IntKind.i64 a0_0), AV.d (D.list 1 a0_1)], AV.agg [AV.d (D.int IntKind.i64 a1_0), AV.d (D.list 1 a1_1)]] = ite' (decide (a0_0 < a1_0)) (some ([(false, [RL.d (D.int IntKind.i64 (-1 : Int))])])) (ite' (decide (a0_0 > a1_0)) (some ([(false, [RL.d (D.int IntKind.i64 (1 : Int))])])) (bindR (call 24 [AV.d (D.list 1 a0_1), AV.d (D.list 1 a1_1)]) fun r6 => bindI (resI IntKind.i64 1 false 1 r6 0 0) fun n7 => some ([(false, [RL.d (D.int IntKind.i64 n7)])]))) := by kernel_rfl
theorem F78.run (k : Nat) (a0_0 : Int) (a0_1 : Ovi.Rows) (a1_0 : Int) (a1_1 : Ovi.Rows) : C (k + 1) 78 [AV.agg [AV.d (D.int IntKind.i64 a0_0), AV.d (D.list 1 a0_1)], AV.agg [AV.d (D.int IntKind.i64 a1_0), AV.d (D.list 1 a1_1)]] = ite' (decide (a0_0 < a1_0)) (some ([(false, [RL.d (D.int IntKind.i64 (-1 : Int))])])) (ite' (decide (a0_0 > a1_0)) (some ([(false, [RL.d (D.int IntKind.i64 (1 : Int))])])) (bindR ((C k) 24 [AV.d (D.list 1 a0_1), AV.d (D.list 1 a1_1)]) fun r6 => bindI (resI IntKind.i64 1 false 1 r6 0 0) fun n7 => some ([(false, [RL.d (D.int IntKind.i64 n7)])]))) := (show C (k + 1) 78 [AV.agg [AV.d (D.int IntKind.i64 a0_0), AV.d (D.list 1 a0_1)], AV.agg [AV.d (D.int IntKind.i64 a1_0), AV.d (D.list 1 a1_1)]] = evFnK P hs (C k) 78 k Tryz.f78 [AV.agg [AV.d (D.int IntKind.i64 a0_0), AV.d (D.list 1 a0_1)], AV.agg [AV.d (D.int IntKind.i64 a1_0), AV.d (D.list 1 a1_1)]] by kernel_rfl).trans (F78.eq k (C k) a0_0 a0_1 a1_0 a1_1)
noncomputable def F80.L4 (k : Nat) (call : CallF)  (n : Nat) (v0 : Int) (v1 : Int) (v2 : Ovi.Rows) : Option Res := loopFn P hs call 80 k Tryz.f80 [1, 1, 0, 1, 0] [] n [(3, AV.var 192 0), (5, AV.d (D.int IntKind.i64 v0))] [(192, Blk.var [AV.d (D.int IntKind.i64 v1), AV.d (D.list 1 v2)])]
theorem F80.L4.zero (k : Nat) (call : CallF)  (v0 : Int) (v1 : Int) (v2 : Ovi.Rows) : F80.L4 k call  0 v0 v1 v2 = none := by kernel_rfl
theorem F80.L4.succ (k : Nat) (call : CallF)  (n : Nat) (v0 : Int) (v1 : Int) (v2 : Ovi.Rows) : F80.L4 k call  (n + 1) v0 v1 v2 = ite' (decide (v0 < (↑(List.length v2) : Int))) (ite' (inR v0 (List.length v2)) (bindI (cellI IntKind.i64 v2 v0.toNat 0) fun n9 => bindR (call 76 [AV.d (D.int IntKind.i64 n9)]) fun r10 => bindB (resB 1 false 1 r10 0 0) fun b11 => ite' (!b11) (some ([(false, [RL.d (D.bool false)])])) (F80.L4 k call  (n) (IntKind.i64.wrap (v0 + (1 : Int))) (v1) (v2))) (none)) (some ([(false, [RL.d (D.bool true)])])) := by kernel_rfl
theorem F80.eq (k : Nat) (call : CallF) (a0 : Ovi.Rows) (a1_0 : Int) (a1_1 : Ovi.Rows) : evFnK P hs call (80 : FuncId) k Tryz.f80 [AV.d (D.list 3 a0), AV.agg [AV.d (D.int IntKind.i64 a1_0), AV.d (D.list 1 a1_1)]] = bindR (call 82 [AV.d (D.list 3 a0)]) fun r5 => bindB (resB 1 false 1 r5 0 0) fun b6 => ite' (!b6) (some ([(false, [RL.d (D.bool false)])])) (bindR (call 60 [AV.d (D.int IntKind.i64 a1_0), AV.d (D.int IntKind.i64 (0 : Int)), AV.d (D.int IntKind.i64 (IntKind.i64.wrap ((↑(List.length a0) : Int) - (1 : Int))))]) fun r7 => bindB (resB 1 false 1 r7 0 0) fun b8 => ite' (!b8) (some ([(false, [RL.d (D.bool false)])])) (ite' (inR a1_0 (List.length a0)) (bindI (cellI IntKind.i64 a0 a1_0.toNat 1) fun n9 => ite' ((↑(List.length a1_1) : Int) != n9) (some ([(false, [RL.d (D.bool false)])])) (F80.L4 k call  (k) ((0 : Int)) (a1_0) (a1_1))) (none))) := by kernel_rfl
theorem F80.run (k : Nat) (a0 : Ovi.Rows) (a1_0 : Int) (a1_1 : Ovi.Rows) : C (k + 1) 80 [AV.d (D.list 3 a0), AV.agg [AV.d (D.int IntKind.i64 a1_0), AV.d (D.list 1 a1_1)]] = bindR ((C k) 82 [AV.d (D.list 3 a0)]) fun r5 => bindB (resB 1 false 1 r5 0 0) fun b6 => ite' (!b6) (some ([(false, [RL.d (D.bool false)])])) (bindR ((C k) 60 [AV.d (D.int IntKind.i64 a1_0), AV.d (D.int IntKind.i64 (0 : Int)), AV.d (D.int IntKind.i64 (IntKind.i64.wrap ((↑(List.length a0) : Int) - (1 : Int))))]) fun r7 => bindB (resB 1 false 1 r7 0 0) fun b8 => ite' (!b8) (some ([(false, [RL.d (D.bool false)])])) (ite' (inR a1_0 (List.length a0)) (bindI (cellI IntKind.i64 a0 a1_0.toNat 1) fun n9 => ite' ((↑(List.length a1_1) : Int) != n9) (some ([(false, [RL.d (D.bool false)])])) (F80.L4 k (C k)  (k) ((0 : Int)) (a1_0) (a1_1))) (none))) := (show C (k + 1) 80 [AV.d (D.list 3 a0), AV.agg [AV.d (D.int IntKind.i64 a1_0), AV.d (D.list 1 a1_1)]] = evFnK P hs (C k) 80 k Tryz.f80 [AV.d (D.list 3 a0), AV.agg [AV.d (D.int IntKind.i64 a1_0), AV.d (D.list 1 a1_1)]] by kernel_rfl).trans (F80.eq k (C k) a0 a1_0 a1_1)
noncomputable def F81.L3 (k : Nat) (call : CallF)  (n : Nat) (v0 : List (List D)) (v1 : Int) (v2 : Int) (v3 : Ovi.Rows) : Option Res := loopFn P hs call 81 k Tryz.f81 [1, 1, 0, 1, 0] [] n [(1, AV.var 64 0), (3, AV.d (D.list 1 v0)), (4, AV.d (D.int IntKind.i64 v1))] [(64, Blk.var [AV.d (D.int IntKind.i64 v2), AV.d (D.list 1 v3)])]
theorem F81.L3.zero (k : Nat) (call : CallF)  (v0 : List (List D)) (v1 : Int) (v2 : Int) (v3 : Ovi.Rows) : F81.L3 k call  0 v0 v1 v2 v3 = none := by kernel_rfl
theorem F81.L3.succ (k : Nat) (call : CallF)  (n : Nat) (v0 : List (List D)) (v1 : Int) (v2 : Int) (v3 : Ovi.Rows) : F81.L3 k call  (n + 1) v0 v1 v2 v3 = ite' (decide (v1 < (↑(List.length v3) : Int))) (ite' (inR v1 (List.length v3)) (bindI (cellI IntKind.i64 v3 v1.toNat 0) fun n9 => bindR (call 110 [AV.d (D.int IntKind.i64 n9)]) fun r10 => bindI (resI IntKind.i64 2 false 1 r10 0 0) fun n11 => bindB (resB 2 false 1 r10 1 0) fun b12 => ite' (b12) (bindR (call 83 [AV.d (D.list 1 v0), AV.d (D.int IntKind.i64 n11)]) fun r13 => bindL (resL 1 1 false 1 r13 0 0) fun l14 => F81.L3 k call  (n) (l14) (IntKind.i64.wrap (v1 + (1 : Int))) (v2) (v3)) (F81.L3 k call  (n) (v0) (IntKind.i64.wrap (v1 + (1 : Int))) (v2) (v3))) (none)) (some ([(false, [RL.d (D.list 1 v0)])])) := by kernel_rfl
theorem F81.eq (k : Nat) (call : CallF) (a0_0 : Int) (a0_1 : Ovi.Rows) : evFnK P hs call (81 : FuncId) k Tryz.f81 [AV.agg [AV.d (D.int IntKind.i64 a0_0), AV.d (D.list 1 a0_1)]] = F81.L3 k call  (k) ([]) ((0 : Int)) (a0_0) (a0_1) := by kernel_rfl
theorem F81.run (k : Nat) (a0_0 : Int) (a0_1 : Ovi.Rows) : C (k + 1) 81 [AV.agg [AV.d (D.int IntKind.i64 a0_0), AV.d (D.list 1 a0_1)]] = F81.L3 k (C k)  (k) ([]) ((0 : Int)) (a0_0) (a0_1) := (show C (k + 1) 81 [AV.agg [AV.d (D.int IntKind.i64 a0_0), AV.d (D.list 1 a0_1)]] = evFnK P hs (C k) 81 k Tryz.f81 [AV.agg [AV.d (D.int IntKind.i64 a0_0), AV.d (D.list 1 a0_1)]] by kernel_rfl).trans (F81.eq k (C k) a0_0 a0_1)
noncomputable def F82.L2 (k : Nat) (call : CallF)  (n : Nat) (v0 : Ovi.Rows) (v1 : Int) : Option Res := loopFn P hs call 82 k Tryz.f82 [1, 0, 1, 0] [] n [(0, AV.d (D.list 3 v0)), (3, AV.d (D.int IntKind.i64 v1))] []
theorem F82.L2.zero (k : Nat) (call : CallF)  (v0 : Ovi.Rows) (v1 : Int) : F82.L2 k call  0 v0 v1 = none := by kernel_rfl
theorem F82.L2.succ (k : Nat) (call : CallF)  (n : Nat) (v0 : Ovi.Rows) (v1 : Int) : F82.L2 k call  (n + 1) v0 v1 = ite' (decide (v1 < (↑(List.length v0) : Int))) (ite' (inR v1 (List.length v0)) (bindS (cellS v0 v1.toNat 0) fun s6 => bindI (cellI IntKind.i64 v0 v1.toNat 1) fun n7 => bindB (cellB v0 v1.toNat 2) fun b8 => bindR (call 111 [AV.agg [AV.d (D.str s6), AV.d (D.int IntKind.i64 n7), AV.d (D.bool b8)]]) fun r9 => bindB (resB 1 false 1 r9 0 0) fun b10 => ite' (!b10) (some ([(false, [RL.d (D.bool false)])])) (ite' (decide (v1 > (0 : Int))) (ite' (inR (IntKind.i64.wrap (v1 - (1 : Int))) (List.length v0)) (bindS (cellS v0 (IntKind.i64.wrap (v1 - (1 : Int))).toNat 0) fun s11 => ite' (inR v1 (List.length v0)) (bindS (cellS v0 v1.toNat 0) fun s12 => ite' (!sLess s11 s12) (some ([(false, [RL.d (D.bool false)])])) (F82.L2 k call  (n) (v0) (IntKind.i64.wrap (v1 + (1 : Int))))) (none)) (none)) (F82.L2 k call  (n) (v0) (IntKind.i64.wrap (v1 + (1 : Int)))))) (none)) (some ([(false, [RL.d (D.bool (decide ((↑(List.length v0) : Int) ≤ (6 : Int))))])])) := by kernel_rfl
theorem F82.eq (k : Nat) (call : CallF) (a0 : Ovi.Rows) : evFnK P hs call (82 : FuncId) k Tryz.f82 [AV.d (D.list 3 a0)] = F82.L2 k call  (k) (a0) ((0 : Int)) := by kernel_rfl
theorem F82.run (k : Nat) (a0 : Ovi.Rows) : C (k + 1) 82 [AV.d (D.list 3 a0)] = F82.L2 k (C k)  (k) (a0) ((0 : Int)) := (show C (k + 1) 82 [AV.d (D.list 3 a0)] = evFnK P hs (C k) 82 k Tryz.f82 [AV.d (D.list 3 a0)] by kernel_rfl).trans (F82.eq k (C k) a0)
noncomputable def F83.L2 (k : Nat) (call : CallF)  (n : Nat) (v0 : Ovi.Rows) (v1 : Int) (v2 : Int) : Option Res := loopFn P hs call 83 k Tryz.f83 [1, 1, 0, 0] [] n [(0, AV.d (D.list 1 v0)), (1, AV.d (D.int IntKind.i64 v1)), (5, AV.d (D.int IntKind.i64 v2))] []
theorem F83.L2.zero (k : Nat) (call : CallF)  (v0 : Ovi.Rows) (v1 : Int) (v2 : Int) : F83.L2 k call  0 v0 v1 v2 = none := by kernel_rfl
theorem F83.L2.succ (k : Nat) (call : CallF)  (n : Nat) (v0 : Ovi.Rows) (v1 : Int) (v2 : Int) : F83.L2 k call  (n + 1) v0 v1 v2 = ite' (decide (v2 < (↑(List.length v0) : Int))) (ite' (inR v2 (List.length v0)) (bindI (cellI IntKind.i64 v0 v2.toNat 0) fun n8 => ite' (decide (n8 < v1)) (F83.L2 k call  (n) (v0) (v1) (IntKind.i64.wrap (v2 + (1 : Int)))) (ite' (decide (v2 < (↑(List.length v0) : Int))) (ite' (inR v2 (List.length v0)) (bindI (cellI IntKind.i64 v0 v2.toNat 0) fun n9 => ite' (n9 == v1) (some ([(false, [RL.d (D.list 1 v0)])])) (ite' (inS v2 (↑(List.length v0) : Int) (List.length v0)) (ite' (fits ([[D.int IntKind.i64 v1]].length + (List.drop v2.toNat v0).length)) (ite' (inS (0 : Int) v2 (List.length v0)) (ite' (fits (List.take v2.toNat v0).length) (ite' (fits ((List.take v2.toNat v0).length + List.length ([[D.int IntKind.i64 v1]] ++ List.drop v2.toNat v0))) (some ([(false, [RL.row 3 1 (List.take v2.toNat v0 ++ ([[D.int IntKind.i64 v1]] ++ List.drop v2.toNat v0))])])) (none)) (none)) (none)) (none)) (none))) (none)) (ite' (inS v2 (↑(List.length v0) : Int) (List.length v0)) (ite' (fits ([[D.int IntKind.i64 v1]].length + (List.drop v2.toNat v0).length)) (ite' (inS (0 : Int) v2 (List.length v0)) (ite' (fits (List.take v2.toNat v0).length) (ite' (fits ((List.take v2.toNat v0).length + List.length ([[D.int IntKind.i64 v1]] ++ List.drop v2.toNat v0))) (some ([(false, [RL.row 3 1 (List.take v2.toNat v0 ++ ([[D.int IntKind.i64 v1]] ++ List.drop v2.toNat v0))])])) (none)) (none)) (none)) (none)) (none)))) (none)) (ite' (decide (v2 < (↑(List.length v0) : Int))) (ite' (inR v2 (List.length v0)) (bindI (cellI IntKind.i64 v0 v2.toNat 0) fun n8 => ite' (n8 == v1) (some ([(false, [RL.d (D.list 1 v0)])])) (ite' (inS v2 (↑(List.length v0) : Int) (List.length v0)) (ite' (fits ([[D.int IntKind.i64 v1]].length + (List.drop v2.toNat v0).length)) (ite' (inS (0 : Int) v2 (List.length v0)) (ite' (fits (List.take v2.toNat v0).length) (ite' (fits ((List.take v2.toNat v0).length + List.length ([[D.int IntKind.i64 v1]] ++ List.drop v2.toNat v0))) (some ([(false, [RL.row 3 1 (List.take v2.toNat v0 ++ ([[D.int IntKind.i64 v1]] ++ List.drop v2.toNat v0))])])) (none)) (none)) (none)) (none)) (none))) (none)) (ite' (inS v2 (↑(List.length v0) : Int) (List.length v0)) (ite' (fits ([[D.int IntKind.i64 v1]].length + (List.drop v2.toNat v0).length)) (ite' (inS (0 : Int) v2 (List.length v0)) (ite' (fits (List.take v2.toNat v0).length) (ite' (fits ((List.take v2.toNat v0).length + List.length ([[D.int IntKind.i64 v1]] ++ List.drop v2.toNat v0))) (some ([(false, [RL.row 3 1 (List.take v2.toNat v0 ++ ([[D.int IntKind.i64 v1]] ++ List.drop v2.toNat v0))])])) (none)) (none)) (none)) (none)) (none))) := by kernel_rfl
theorem F83.eq (k : Nat) (call : CallF) (a0 : Ovi.Rows) (a1 : Int) : evFnK P hs call (83 : FuncId) k Tryz.f83 [AV.d (D.list 1 a0), AV.d (D.int IntKind.i64 a1)] = F83.L2 k call  (k) (a0) (a1) ((0 : Int)) := by kernel_rfl
theorem F83.run (k : Nat) (a0 : Ovi.Rows) (a1 : Int) : C (k + 1) 83 [AV.d (D.list 1 a0), AV.d (D.int IntKind.i64 a1)] = F83.L2 k (C k)  (k) (a0) (a1) ((0 : Int)) := (show C (k + 1) 83 [AV.d (D.list 1 a0), AV.d (D.int IntKind.i64 a1)] = evFnK P hs (C k) 83 k Tryz.f83 [AV.d (D.list 1 a0), AV.d (D.int IntKind.i64 a1)] by kernel_rfl).trans (F83.eq k (C k) a0 a1)
theorem F84.eq (k : Nat) (call : CallF) (a0 : Int) : evFnK P hs call (84 : FuncId) k Tryz.f84 [AV.d (D.int IntKind.i64 a0)] = bindR (call 96 [AV.d (D.int IntKind.i64 a0), AV.d (D.int IntKind.i64 (-40 : Int)), AV.d (D.int IntKind.i64 (9 : Int))]) fun r3 => bindB (resB 1 false 1 r3 0 0) fun b4 => some ([(false, [RL.d (D.bool b4)])]) := by kernel_rfl
theorem F84.run (k : Nat) (a0 : Int) : C (k + 1) 84 [AV.d (D.int IntKind.i64 a0)] = bindR ((C k) 96 [AV.d (D.int IntKind.i64 a0), AV.d (D.int IntKind.i64 (-40 : Int)), AV.d (D.int IntKind.i64 (9 : Int))]) fun r3 => bindB (resB 1 false 1 r3 0 0) fun b4 => some ([(false, [RL.d (D.bool b4)])]) := (show C (k + 1) 84 [AV.d (D.int IntKind.i64 a0)] = evFnK P hs (C k) 84 k Tryz.f84 [AV.d (D.int IntKind.i64 a0)] by kernel_rfl).trans (F84.eq k (C k) a0)
theorem F88.eq (k : Nat) (call : CallF) (a0_0 : Int) (a0_1 : Ovi.Rows) (a1_0 : Int) (a1_1 : Ovi.Rows) : evFnK P hs call (88 : FuncId) k Tryz.f88 [AV.agg [AV.d (D.int IntKind.i64 a0_0), AV.d (D.list 1 a0_1)], AV.agg [AV.d (D.int IntKind.i64 a1_0), AV.d (D.list 1 a1_1)]] = bindR (call 116 [AV.d (D.int IntKind.i64 a0_0), AV.d (D.int IntKind.i64 a1_0)]) fun r6 => bindI (resI IntKind.i64 1 false 1 r6 0 0) fun n7 => bindR (call 108 [AV.d (D.list 1 a0_1), AV.d (D.list 1 a1_1)]) fun r8 => bindI (resI IntKind.i64 1 false 1 r8 0 0) fun n9 => bindR (call 115 [AV.d (D.list 1 [[D.int IntKind.i64 n7], [D.int IntKind.i64 n9]])]) fun r10 => bindI (resI IntKind.i64 1 false 1 r10 0 0) fun n11 => some ([(false, [RL.d (D.int IntKind.i64 n11)])]) := by kernel_rfl
theorem F88.run (k : Nat) (a0_0 : Int) (a0_1 : Ovi.Rows) (a1_0 : Int) (a1_1 : Ovi.Rows) : C (k + 1) 88 [AV.agg [AV.d (D.int IntKind.i64 a0_0), AV.d (D.list 1 a0_1)], AV.agg [AV.d (D.int IntKind.i64 a1_0), AV.d (D.list 1 a1_1)]] = bindR ((C k) 116 [AV.d (D.int IntKind.i64 a0_0), AV.d (D.int IntKind.i64 a1_0)]) fun r6 => bindI (resI IntKind.i64 1 false 1 r6 0 0) fun n7 => bindR ((C k) 108 [AV.d (D.list 1 a0_1), AV.d (D.list 1 a1_1)]) fun r8 => bindI (resI IntKind.i64 1 false 1 r8 0 0) fun n9 => bindR ((C k) 115 [AV.d (D.list 1 [[D.int IntKind.i64 n7], [D.int IntKind.i64 n9]])]) fun r10 => bindI (resI IntKind.i64 1 false 1 r10 0 0) fun n11 => some ([(false, [RL.d (D.int IntKind.i64 n11)])]) := (show C (k + 1) 88 [AV.agg [AV.d (D.int IntKind.i64 a0_0), AV.d (D.list 1 a0_1)], AV.agg [AV.d (D.int IntKind.i64 a1_0), AV.d (D.list 1 a1_1)]] = evFnK P hs (C k) 88 k Tryz.f88 [AV.agg [AV.d (D.int IntKind.i64 a0_0), AV.d (D.list 1 a0_1)], AV.agg [AV.d (D.int IntKind.i64 a1_0), AV.d (D.list 1 a1_1)]] by kernel_rfl).trans (F88.eq k (C k) a0_0 a0_1 a1_0 a1_1)
noncomputable def F91.L2 (k : Nat) (call : CallF)  (n : Nat) (v0 : Ovi.Rows) (v1 : Ovi.Rows) (v2 : Int) (v3 : Int) : Option Res := loopFn P hs call 91 k Tryz.f91 [1, 0, 1, 0] [] n [(0, AV.d (D.list 3 v0)), (5, AV.d (D.list 3 v1)), (6, AV.d (D.int IntKind.i64 v2)), (7, AV.d (D.int IntKind.i64 v3))] []
theorem F91.L2.zero (k : Nat) (call : CallF)  (v0 : Ovi.Rows) (v1 : Ovi.Rows) (v2 : Int) (v3 : Int) : F91.L2 k call  0 v0 v1 v2 v3 = none := by kernel_rfl
theorem F91.L2.succ (k : Nat) (call : CallF)  (n : Nat) (v0 : Ovi.Rows) (v1 : Ovi.Rows) (v2 : Int) (v3 : Int) : F91.L2 k call  (n + 1) v0 v1 v2 v3 = ite' (decide (v3 < v2)) (ite' (inR v3 (List.length v1)) (bindS (cellS v1 v3.toNat 0) fun s8 => bindI (cellI IntKind.i64 v1 v3.toNat 1) fun n9 => bindB (cellB v1 v3.toNat 2) fun b10 => bindR (call 117 [AV.agg [AV.d (D.str s8), AV.d (D.int IntKind.i64 n9), AV.d (D.bool b10)]]) fun r11 => bindB (resB 1 false 1 r11 0 0) fun b12 => ite' (!b12) (some ([(false, [RL.d (D.bool false)])])) (ite' (decide (v3 > (0 : Int))) (ite' (inR (IntKind.i64.wrap (v3 - (1 : Int))) (List.length v0)) (bindS (cellS v0 (IntKind.i64.wrap (v3 - (1 : Int))).toNat 0) fun s13 => ite' (sLess s8 s13 || s8 == s13) (some ([(false, [RL.d (D.bool false)])])) (F91.L2 k call  (n) (v0) (v1) (v2) (IntKind.i64.wrap (v3 + (1 : Int))))) (none)) (F91.L2 k call  (n) (v0) (v1) (v2) (IntKind.i64.wrap (v3 + (1 : Int)))))) (none)) (some ([(false, [RL.d (D.bool (decide ((↑(List.length v0) : Int) ≤ (6 : Int))))])])) := by kernel_rfl
theorem F91.eq (k : Nat) (call : CallF) (a0 : Ovi.Rows) : evFnK P hs call (91 : FuncId) k Tryz.f91 [AV.d (D.list 3 a0)] = F91.L2 k call  (k) (a0) (a0) ((↑(List.length a0) : Int)) ((0 : Int)) := by kernel_rfl
theorem F91.run (k : Nat) (a0 : Ovi.Rows) : C (k + 1) 91 [AV.d (D.list 3 a0)] = F91.L2 k (C k)  (k) (a0) (a0) ((↑(List.length a0) : Int)) ((0 : Int)) := (show C (k + 1) 91 [AV.d (D.list 3 a0)] = evFnK P hs (C k) 91 k Tryz.f91 [AV.d (D.list 3 a0)] by kernel_rfl).trans (F91.eq k (C k) a0)
theorem F92.eq (k : Nat) (call : CallF) (a0 : Ovi.Rows) (a1_0 : Int) (a1_1 : Ovi.Rows) : evFnK P hs call (92 : FuncId) k Tryz.f92 [AV.d (D.list 3 a0), AV.agg [AV.d (D.int IntKind.i64 a1_0), AV.d (D.list 1 a1_1)]] = bindR (call 91 [AV.d (D.list 3 a0)]) fun r5 => bindB (resB 1 false 1 r5 0 0) fun b6 => ite' (!b6) (some ([(false, [RL.d (D.bool false)])])) (bindR (call 96 [AV.d (D.int IntKind.i64 a1_0), AV.d (D.int IntKind.i64 (0 : Int)), AV.d (D.int IntKind.i64 (IntKind.i64.wrap ((↑(List.length a0) : Int) - (1 : Int))))]) fun r7 => bindB (resB 1 false 1 r7 0 0) fun b8 => ite' (!b8) (some ([(false, [RL.d (D.bool false)])])) (ite' (inR a1_0 (List.length a0)) (bindI (cellI IntKind.i64 a0 a1_0.toNat 1) fun n9 => ite' ((↑(List.length a1_1) : Int) != n9) (some ([(false, [RL.d (D.bool false)])])) (bindR (call 67 [AV.d (D.list 1 a1_1), AV.d (D.fn 118 [])]) fun r10 => bindB (resB 1 false 1 r10 0 0) fun b11 => some ([(false, [RL.d (D.bool !b11)])]))) (none))) := by kernel_rfl
theorem F92.run (k : Nat) (a0 : Ovi.Rows) (a1_0 : Int) (a1_1 : Ovi.Rows) : C (k + 1) 92 [AV.d (D.list 3 a0), AV.agg [AV.d (D.int IntKind.i64 a1_0), AV.d (D.list 1 a1_1)]] = bindR ((C k) 91 [AV.d (D.list 3 a0)]) fun r5 => bindB (resB 1 false 1 r5 0 0) fun b6 => ite' (!b6) (some ([(false, [RL.d (D.bool false)])])) (bindR ((C k) 96 [AV.d (D.int IntKind.i64 a1_0), AV.d (D.int IntKind.i64 (0 : Int)), AV.d (D.int IntKind.i64 (IntKind.i64.wrap ((↑(List.length a0) : Int) - (1 : Int))))]) fun r7 => bindB (resB 1 false 1 r7 0 0) fun b8 => ite' (!b8) (some ([(false, [RL.d (D.bool false)])])) (ite' (inR a1_0 (List.length a0)) (bindI (cellI IntKind.i64 a0 a1_0.toNat 1) fun n9 => ite' ((↑(List.length a1_1) : Int) != n9) (some ([(false, [RL.d (D.bool false)])])) (bindR ((C k) 67 [AV.d (D.list 1 a1_1), AV.d (D.fn 118 [])]) fun r10 => bindB (resB 1 false 1 r10 0 0) fun b11 => some ([(false, [RL.d (D.bool !b11)])]))) (none))) := (show C (k + 1) 92 [AV.d (D.list 3 a0), AV.agg [AV.d (D.int IntKind.i64 a1_0), AV.d (D.list 1 a1_1)]] = evFnK P hs (C k) 92 k Tryz.f92 [AV.d (D.list 3 a0), AV.agg [AV.d (D.int IntKind.i64 a1_0), AV.d (D.list 1 a1_1)]] by kernel_rfl).trans (F92.eq k (C k) a0 a1_0 a1_1)
theorem F93.eq (k : Nat) (call : CallF) (a0_0 : Int) (a0_1 : Ovi.Rows) : evFnK P hs call (93 : FuncId) k Tryz.f93 [AV.agg [AV.d (D.int IntKind.i64 a0_0), AV.d (D.list 1 a0_1)]] = bindR (call 119 [AV.d (D.list 1 a0_1)]) fun r4 => bindL (resO 3 1 1 false 1 r4 0 0) fun l5 => some ([(false, [RL.row 3 1 l5])]) := by kernel_rfl
theorem F93.run (k : Nat) (a0_0 : Int) (a0_1 : Ovi.Rows) : C (k + 1) 93 [AV.agg [AV.d (D.int IntKind.i64 a0_0), AV.d (D.list 1 a0_1)]] = bindR ((C k) 119 [AV.d (D.list 1 a0_1)]) fun r4 => bindL (resO 3 1 1 false 1 r4 0 0) fun l5 => some ([(false, [RL.row 3 1 l5])]) := (show C (k + 1) 93 [AV.agg [AV.d (D.int IntKind.i64 a0_0), AV.d (D.list 1 a0_1)]] = evFnK P hs (C k) 93 k Tryz.f93 [AV.agg [AV.d (D.int IntKind.i64 a0_0), AV.d (D.list 1 a0_1)]] by kernel_rfl).trans (F93.eq k (C k) a0_0 a0_1)
theorem F96.eq (k : Nat) (call : CallF) (a0 : Int) (a1 : Int) (a2 : Int) : evFnK P hs call (96 : FuncId) k Tryz.f96 [AV.d (D.int IntKind.i64 a0), AV.d (D.int IntKind.i64 a1), AV.d (D.int IntKind.i64 a2)] = ite' (decide (a1 ≤ a0)) (some ([(false, [RL.d (D.bool (decide (a0 ≤ a2)))])])) (some ([(false, [RL.d (D.bool false)])])) := by kernel_rfl
theorem F96.run (k : Nat) (a0 : Int) (a1 : Int) (a2 : Int) : C (k + 1) 96 [AV.d (D.int IntKind.i64 a0), AV.d (D.int IntKind.i64 a1), AV.d (D.int IntKind.i64 a2)] = ite' (decide (a1 ≤ a0)) (some ([(false, [RL.d (D.bool (decide (a0 ≤ a2)))])])) (some ([(false, [RL.d (D.bool false)])])) := (show C (k + 1) 96 [AV.d (D.int IntKind.i64 a0), AV.d (D.int IntKind.i64 a1), AV.d (D.int IntKind.i64 a2)] = evFnK P hs (C k) 96 k Tryz.f96 [AV.d (D.int IntKind.i64 a0), AV.d (D.int IntKind.i64 a1), AV.d (D.int IntKind.i64 a2)] by kernel_rfl).trans (F96.eq k (C k) a0 a1 a2)
theorem F97.eq (k : Nat) (call : CallF) (a0 : Ovi.Rows) (a1 : FuncId) (a1c : Ovi.Rows) : evFnK P hs call (97 : FuncId) k Tryz.f97 [AV.d (D.list 2 a0), AV.d (D.fn a1 a1c)] = bindR (call 121 [AV.d (D.list 2 a0), AV.d (D.fn a1 a1c)]) fun r5 => bindI (resI IntKind.i64 1 false 1 r5 0 0) fun n6 => some ([(false, [RL.d (D.bool (decide (n6 ≥ (0 : Int))))])]) := by kernel_rfl
theorem F97.run (k : Nat) (a0 : Ovi.Rows) (a1 : FuncId) (a1c : Ovi.Rows) : C (k + 1) 97 [AV.d (D.list 2 a0), AV.d (D.fn a1 a1c)] = bindR ((C k) 121 [AV.d (D.list 2 a0), AV.d (D.fn a1 a1c)]) fun r5 => bindI (resI IntKind.i64 1 false 1 r5 0 0) fun n6 => some ([(false, [RL.d (D.bool (decide (n6 ≥ (0 : Int))))])]) := (show C (k + 1) 97 [AV.d (D.list 2 a0), AV.d (D.fn a1 a1c)] = evFnK P hs (C k) 97 k Tryz.f97 [AV.d (D.list 2 a0), AV.d (D.fn a1 a1c)] by kernel_rfl).trans (F97.eq k (C k) a0 a1 a1c)
theorem F98.eq (k : Nat) (call : CallF) (a0_0 : Int) (a0_1 : Ovi.Rows) (c0_0 : Ovi.Rows) : evFnK P hs call (98 : FuncId) k Tryz.f98 [AV.agg [AV.d (D.int IntKind.i64 a0_0), AV.d (D.list 1 a0_1)], AV.cap [D.list 3 c0_0] 0] = bindR (call 99 [AV.d (D.list 3 c0_0), AV.agg [AV.d (D.int IntKind.i64 a0_0), AV.d (D.list 1 a0_1)]]) fun r5 => bindB (resB 1 false 1 r5 0 0) fun b6 => some ([(false, [RL.d (D.bool !b6)])]) := by kernel_rfl
theorem F98.run (k : Nat) (a0_0 : Int) (a0_1 : Ovi.Rows) (c0_0 : Ovi.Rows) : C (k + 1) 98 [AV.agg [AV.d (D.int IntKind.i64 a0_0), AV.d (D.list 1 a0_1)], AV.cap [D.list 3 c0_0] 0] = bindR ((C k) 99 [AV.d (D.list 3 c0_0), AV.agg [AV.d (D.int IntKind.i64 a0_0), AV.d (D.list 1 a0_1)]]) fun r5 => bindB (resB 1 false 1 r5 0 0) fun b6 => some ([(false, [RL.d (D.bool !b6)])]) := (show C (k + 1) 98 [AV.agg [AV.d (D.int IntKind.i64 a0_0), AV.d (D.list 1 a0_1)], AV.cap [D.list 3 c0_0] 0] = evFnK P hs (C k) 98 k Tryz.f98 [AV.agg [AV.d (D.int IntKind.i64 a0_0), AV.d (D.list 1 a0_1)], AV.cap [D.list 3 c0_0] 0] by kernel_rfl).trans (F98.eq k (C k) a0_0 a0_1 c0_0)
theorem F99.eq (k : Nat) (call : CallF) (a0 : Ovi.Rows) (a1_0 : Int) (a1_1 : Ovi.Rows) : evFnK P hs call (99 : FuncId) k Tryz.f99 [AV.d (D.list 3 a0), AV.agg [AV.d (D.int IntKind.i64 a1_0), AV.d (D.list 1 a1_1)]] = bindR (call 91 [AV.d (D.list 3 a0)]) fun r5 => bindB (resB 1 false 1 r5 0 0) fun b6 => ite' (!b6) (some ([(false, [RL.d (D.bool false)])])) (bindR (call 96 [AV.d (D.int IntKind.i64 a1_0), AV.d (D.int IntKind.i64 (0 : Int)), AV.d (D.int IntKind.i64 (IntKind.i64.wrap ((↑(List.length a0) : Int) - (1 : Int))))]) fun r7 => bindB (resB 1 false 1 r7 0 0) fun b8 => ite' (!b8) (some ([(false, [RL.d (D.bool false)])])) (ite' (inR a1_0 (List.length a0)) (bindI (cellI IntKind.i64 a0 a1_0.toNat 1) fun n9 => ite' ((↑(List.length a1_1) : Int) != n9) (some ([(false, [RL.d (D.bool false)])])) (bindR (call 67 [AV.d (D.list 1 a1_1), AV.d (D.fn 122 [])]) fun r10 => bindB (resB 1 false 1 r10 0 0) fun b11 => some ([(false, [RL.d (D.bool !b11)])]))) (none))) := by kernel_rfl
theorem F99.run (k : Nat) (a0 : Ovi.Rows) (a1_0 : Int) (a1_1 : Ovi.Rows) : C (k + 1) 99 [AV.d (D.list 3 a0), AV.agg [AV.d (D.int IntKind.i64 a1_0), AV.d (D.list 1 a1_1)]] = bindR ((C k) 91 [AV.d (D.list 3 a0)]) fun r5 => bindB (resB 1 false 1 r5 0 0) fun b6 => ite' (!b6) (some ([(false, [RL.d (D.bool false)])])) (bindR ((C k) 96 [AV.d (D.int IntKind.i64 a1_0), AV.d (D.int IntKind.i64 (0 : Int)), AV.d (D.int IntKind.i64 (IntKind.i64.wrap ((↑(List.length a0) : Int) - (1 : Int))))]) fun r7 => bindB (resB 1 false 1 r7 0 0) fun b8 => ite' (!b8) (some ([(false, [RL.d (D.bool false)])])) (ite' (inR a1_0 (List.length a0)) (bindI (cellI IntKind.i64 a0 a1_0.toNat 1) fun n9 => ite' ((↑(List.length a1_1) : Int) != n9) (some ([(false, [RL.d (D.bool false)])])) (bindR ((C k) 67 [AV.d (D.list 1 a1_1), AV.d (D.fn 122 [])]) fun r10 => bindB (resB 1 false 1 r10 0 0) fun b11 => some ([(false, [RL.d (D.bool !b11)])]))) (none))) := (show C (k + 1) 99 [AV.d (D.list 3 a0), AV.agg [AV.d (D.int IntKind.i64 a1_0), AV.d (D.list 1 a1_1)]] = evFnK P hs (C k) 99 k Tryz.f99 [AV.d (D.list 3 a0), AV.agg [AV.d (D.int IntKind.i64 a1_0), AV.d (D.list 1 a1_1)]] by kernel_rfl).trans (F99.eq k (C k) a0 a1_0 a1_1)
noncomputable def F100.L2 (k : Nat) (call : CallF)  (n : Nat) (v0 : Ovi.Rows) (v1 : FuncId) (v2 : Ovi.Rows) (v3 : Int) (v4 : Int) : Option Res := loopFn P hs call 100 k Tryz.f100 [1, 0, 1, 0] [] n [(0, AV.d (D.list 1 v0)), (1, AV.d (D.fn v1 v2)), (7, AV.d (D.int IntKind.i64 v3)), (8, AV.d (D.int IntKind.i64 v4))] []
theorem F100.L2.zero (k : Nat) (call : CallF)  (v0 : Ovi.Rows) (v1 : FuncId) (v2 : Ovi.Rows) (v3 : Int) (v4 : Int) : F100.L2 k call  0 v0 v1 v2 v3 v4 = none := by kernel_rfl
theorem F100.L2.succ (k : Nat) (call : CallF)  (n : Nat) (v0 : Ovi.Rows) (v1 : FuncId) (v2 : Ovi.Rows) (v3 : Int) (v4 : Int) : F100.L2 k call  (n + 1) v0 v1 v2 v3 v4 = ite' (decide (v4 < v3)) (ite' (inR v4 (List.length v0)) (bindI (cellI IntKind.i64 v0 v4.toNat 0) fun n11 => bindR (call v1 (AV.d (D.int IntKind.i64 n11) :: [].append (List.map (fun (c : List D) => AV.cap c 0) v2))) fun r12 => bindB (resB 1 false 1 r12 0 0) fun b13 => ite' (b13) (some ([(false, [RL.d (D.int IntKind.i64 v4)])])) (F100.L2 k call  (n) (v0) (v1) (v2) (v3) (IntKind.i64.wrap (v4 + (1 : Int))))) (none)) (some ([(false, [RL.d (D.int IntKind.i64 (-1 : Int))])])) := by kernel_rfl
theorem F100.eq (k : Nat) (call : CallF) (a0 : Ovi.Rows) (a1 : FuncId) (a1c : Ovi.Rows) : evFnK P hs call (100 : FuncId) k Tryz.f100 [AV.d (D.list 1 a0), AV.d (D.fn a1 a1c)] = F100.L2 k call  (k) (a0) (a1) (a1c) ((↑(List.length a0) : Int)) ((0 : Int)) := by kernel_rfl
theorem F100.run (k : Nat) (a0 : Ovi.Rows) (a1 : FuncId) (a1c : Ovi.Rows) : C (k + 1) 100 [AV.d (D.list 1 a0), AV.d (D.fn a1 a1c)] = F100.L2 k (C k)  (k) (a0) (a1) (a1c) ((↑(List.length a0) : Int)) ((0 : Int)) := (show C (k + 1) 100 [AV.d (D.list 1 a0), AV.d (D.fn a1 a1c)] = evFnK P hs (C k) 100 k Tryz.f100 [AV.d (D.list 1 a0), AV.d (D.fn a1 a1c)] by kernel_rfl).trans (F100.eq k (C k) a0 a1 a1c)
noncomputable def F101.L2 (k : Nat) (call : CallF)  (n : Nat) (v0 : Ovi.Rows) (v1 : Int) (v2 : Int) (v3 : Int) : Option Res := loopFn P hs call 101 k Tryz.f101 [1, 0, 1, 0] [] n [(0, AV.d (D.list 1 v0)), (1, AV.d (D.int IntKind.i64 v1)), (7, AV.d (D.int IntKind.i64 v2)), (8, AV.d (D.int IntKind.i64 v3))] []
theorem F101.L2.zero (k : Nat) (call : CallF)  (v0 : Ovi.Rows) (v1 : Int) (v2 : Int) (v3 : Int) : F101.L2 k call  0 v0 v1 v2 v3 = none := by kernel_rfl
theorem F101.L2.succ (k : Nat) (call : CallF)  (n : Nat) (v0 : Ovi.Rows) (v1 : Int) (v2 : Int) (v3 : Int) : F101.L2 k call  (n + 1) v0 v1 v2 v3 = ite' (decide (v3 < v2)) (ite' (inR v3 (List.length v0)) (bindI (cellI IntKind.i64 v0 v3.toNat 0) fun n9 => ite' (v1 == n9) (some ([(false, [RL.d (D.int IntKind.i64 v3)])])) (F101.L2 k call  (n) (v0) (v1) (v2) (IntKind.i64.wrap (v3 + (1 : Int))))) (none)) (some ([(false, [RL.d (D.int IntKind.i64 (-1 : Int))])])) := by kernel_rfl
theorem F101.eq (k : Nat) (call : CallF) (a0 : Ovi.Rows) (a1 : Int) : evFnK P hs call (101 : FuncId) k Tryz.f101 [AV.d (D.list 1 a0), AV.d (D.int IntKind.i64 a1)] = F101.L2 k call  (k) (a0) (a1) ((↑(List.length a0) : Int)) ((0 : Int)) := by kernel_rfl
theorem F101.run (k : Nat) (a0 : Ovi.Rows) (a1 : Int) : C (k + 1) 101 [AV.d (D.list 1 a0), AV.d (D.int IntKind.i64 a1)] = F101.L2 k (C k)  (k) (a0) (a1) ((↑(List.length a0) : Int)) ((0 : Int)) := (show C (k + 1) 101 [AV.d (D.list 1 a0), AV.d (D.int IntKind.i64 a1)] = evFnK P hs (C k) 101 k Tryz.f101 [AV.d (D.list 1 a0), AV.d (D.int IntKind.i64 a1)] by kernel_rfl).trans (F101.eq k (C k) a0 a1)
noncomputable def F102.L5 (k : Nat) (call : CallF)  (n : Nat) (v0 : Int) (v1 : Int) (v2 : Ovi.Rows) (v3 : Int) (v4 : Ovi.Rows) (v5 : Ovi.Rows) : Option Res := loopFn P hs call 102 k Tryz.f102 [1, 1, 1, 0, 1, 0] [] n [(3, AV.var 192 0), (4, AV.var 256 0), (8, AV.own 100008 0), (9, AV.d (D.int IntKind.i64 v0))] [(192, Blk.var [AV.d (D.int IntKind.i64 v1), AV.d (D.list 1 v2)]), (256, Blk.var [AV.d (D.int IntKind.i64 v3), AV.d (D.list 1 v4)]), (100008, Blk.arr 3 1 0 v5)]
theorem F102.L5.zero (k : Nat) (call : CallF)  (v0 : Int) (v1 : Int) (v2 : Ovi.Rows) (v3 : Int) (v4 : Ovi.Rows) (v5 : Ovi.Rows) : F102.L5 k call  0 v0 v1 v2 v3 v4 v5 = none := by kernel_rfl
theorem F102.L5.succ (k : Nat) (call : CallF)  (n : Nat) (v0 : Int) (v1 : Int) (v2 : Ovi.Rows) (v3 : Int) (v4 : Ovi.Rows) (v5 : Ovi.Rows) : F102.L5 k call  (n + 1) v0 v1 v2 v3 v4 v5 = ite' (decide (v0 < (↑(List.length v2) : Int))) (ite' (inR v0 (List.length v2)) (bindI (cellI IntKind.i64 v2 v0.toNat 0) fun n14 => ite' (decide (n14 < (0 : Int))) (ite' (inR v0 (List.length v4)) (bindI (cellI IntKind.i64 v4 v0.toNat 0) fun n15 => ite' (IntKind.i64.wrap ((-1 : Int) - n14) != n15) (some ([(false, [RL.row 3 1 v5]), (false, [RL.d (D.bool false)])])) (F102.L5 k call  (n) (IntKind.i64.wrap (v0 + (1 : Int))) (v1) (v2) (v3) (v4) (v5))) (none)) (ite' (inR n14 (List.length v5)) (bindI (cellI IntKind.i64 v5 n14.toNat 0) fun n15 => bindR (call 103 []) fun r16 => bindI (resI IntKind.i64 1 false 1 r16 0 0) fun n17 => ite' (n15 != n17) (ite' (inR n14 (List.length v5)) (bindI (cellI IntKind.i64 v5 n14.toNat 0) fun n18 => ite' (inR v0 (List.length v4)) (bindI (cellI IntKind.i64 v4 v0.toNat 0) fun n19 => ite' (n18 != n19) (some ([(false, [RL.row 3 1 v5]), (false, [RL.d (D.bool false)])])) (ite' (inR v0 (List.length v4)) (bindI (cellI IntKind.i64 v4 v0.toNat 0) fun n20 => ite' (inR n14 (List.length v5)) (F102.L5 k call  (n) (IntKind.i64.wrap (v0 + (1 : Int))) (v1) (v2) (v3) (v4) (rowsSet v5 n14.toNat 0 [D.int IntKind.i64 n20])) (none)) (none))) (none)) (none)) (ite' (inR v0 (List.length v4)) (bindI (cellI IntKind.i64 v4 v0.toNat 0) fun n18 => ite' (inR n14 (List.length v5)) (F102.L5 k call  (n) (IntKind.i64.wrap (v0 + (1 : Int))) (v1) (v2) (v3) (v4) (rowsSet v5 n14.toNat 0 [D.int IntKind.i64 n18])) (none)) (none))) (none))) (none)) (some ([(false, [RL.row 3 1 v5]), (false, [RL.d (D.bool true)])])) := by kernel_rfl
theorem F102.eq (k : Nat) (call : CallF) (a0_0 : Int) (a0_1 : Ovi.Rows) (a1_0 : Int) (a1_1 : Ovi.Rows) (a2 : Ovi.Rows) : evFnK P hs call (102 : FuncId) k Tryz.f102 [AV.agg [AV.d (D.int IntKind.i64 a0_0), AV.d (D.list 1 a0_1)], AV.agg [AV.d (D.int IntKind.i64 a1_0), AV.d (D.list 1 a1_1)], AV.d (D.list 1 a2)] = ite' (fits (List.length a2)) (ite' (a0_0 != a1_0) (some ([(false, [RL.row 3 1 a2]), (false, [RL.d (D.bool false)])])) (ite' ((↑(List.length a0_1) : Int) != (↑(List.length a1_1) : Int)) (some ([(false, [RL.row 3 1 a2]), (false, [RL.d (D.bool false)])])) (F102.L5 k call  (k) ((0 : Int)) (a0_0) (a0_1) (a1_0) (a1_1) (a2)))) (none) := by kernel_rfl
theorem F102.run (k : Nat) (a0_0 : Int) (a0_1 : Ovi.Rows) (a1_0 : Int) (a1_1 : Ovi.Rows) (a2 : Ovi.Rows) : C (k + 1) 102 [AV.agg [AV.d (D.int IntKind.i64 a0_0), AV.d (D.list 1 a0_1)], AV.agg [AV.d (D.int IntKind.i64 a1_0), AV.d (D.list 1 a1_1)], AV.d (D.list 1 a2)] = ite' (fits (List.length a2)) (ite' (a0_0 != a1_0) (some ([(false, [RL.row 3 1 a2]), (false, [RL.d (D.bool false)])])) (ite' ((↑(List.length a0_1) : Int) != (↑(List.length a1_1) : Int)) (some ([(false, [RL.row 3 1 a2]), (false, [RL.d (D.bool false)])])) (F102.L5 k (C k)  (k) ((0 : Int)) (a0_0) (a0_1) (a1_0) (a1_1) (a2)))) (none) := (show C (k + 1) 102 [AV.agg [AV.d (D.int IntKind.i64 a0_0), AV.d (D.list 1 a0_1)], AV.agg [AV.d (D.int IntKind.i64 a1_0), AV.d (D.list 1 a1_1)], AV.d (D.list 1 a2)] = evFnK P hs (C k) 102 k Tryz.f102 [AV.agg [AV.d (D.int IntKind.i64 a0_0), AV.d (D.list 1 a0_1)], AV.agg [AV.d (D.int IntKind.i64 a1_0), AV.d (D.list 1 a1_1)], AV.d (D.list 1 a2)] by kernel_rfl).trans (F102.eq k (C k) a0_0 a0_1 a1_0 a1_1 a2)
theorem F103.eq (k : Nat) (call : CallF)  : evFnK P hs call (103 : FuncId) k Tryz.f103 [] = some ([(false, [RL.d (D.int IntKind.i64 (10 : Int))])]) := by kernel_rfl
theorem F103.run (k : Nat)  : C (k + 1) 103 [] = some ([(false, [RL.d (D.int IntKind.i64 (10 : Int))])]) := (show C (k + 1) 103 [] = evFnK P hs (C k) 103 k Tryz.f103 [] by kernel_rfl).trans (F103.eq k (C k) )
theorem F104.eq (k : Nat) (call : CallF) (a0_0 : Ovi.Rows) (a0_1 : Ovi.Rows) (a1 : Ovi.Rows) : evFnK P hs call (104 : FuncId) k Tryz.f104 [AV.agg [AV.d (D.list 3 a0_0), AV.d (D.list 2 a0_1)], AV.d (D.list 2 a1)] = bindR (call 64 [AV.agg [AV.d (D.list 3 a0_0), AV.d (D.list 2 a0_1)]]) fun r5 => bindB (resB 1 false 1 r5 0 0) fun b6 => ite' (b6) (ite' ((↑(List.length a1) : Int) == (0 : Int)) (some ([(false, [RL.d (D.bool true)])])) (bindR (call 66 [AV.d (D.list 3 a0_0), AV.d (D.list 2 a1), AV.d (D.int IntKind.i64 (3 : Int))]) fun r7 => bindB (resB 1 false 1 r7 0 0) fun b8 => some ([(false, [RL.d (D.bool b8)])]))) (some ([(false, [RL.d (D.bool false)])])) := by kernel_rfl
theorem F104.run (k : Nat) (a0_0 : Ovi.Rows) (a0_1 : Ovi.Rows) (a1 : Ovi.Rows) : C (k + 1) 104 [AV.agg [AV.d (D.list 3 a0_0), AV.d (D.list 2 a0_1)], AV.d (D.list 2 a1)] = bindR ((C k) 64 [AV.agg [AV.d (D.list 3 a0_0), AV.d (D.list 2 a0_1)]]) fun r5 => bindB (resB 1 false 1 r5 0 0) fun b6 => ite' (b6) (ite' ((↑(List.length a1) : Int) == (0 : Int)) (some ([(false, [RL.d (D.bool true)])])) (bindR ((C k) 66 [AV.d (D.list 3 a0_0), AV.d (D.list 2 a1), AV.d (D.int IntKind.i64 (3 : Int))]) fun r7 => bindB (resB 1 false 1 r7 0 0) fun b8 => some ([(false, [RL.d (D.bool b8)])]))) (some ([(false, [RL.d (D.bool false)])])) := (show C (k + 1) 104 [AV.agg [AV.d (D.list 3 a0_0), AV.d (D.list 2 a0_1)], AV.d (D.list 2 a1)] = evFnK P hs (C k) 104 k Tryz.f104 [AV.agg [AV.d (D.list 3 a0_0), AV.d (D.list 2 a0_1)], AV.d (D.list 2 a1)] by kernel_rfl).trans (F104.eq k (C k) a0_0 a0_1 a1)
noncomputable def F105.L5 (k : Nat) (call : CallF)  (n : Nat) (v0 : Ovi.Rows) (v1 : Ovi.Rows) (v2 : Ovi.Rows) (v3 : Ovi.Rows) (v4 : Int) (v5 : Int) (v6 : List (List D)) : Option Res := loopFn P hs call 105 k Tryz.f105 [1, 1, 1, 0, 1, 0] [] n [(0, AV.d (D.list 2 v0)), (1, AV.d (D.list 2 v1)), (2, AV.d (D.list 1 v2)), (7, AV.own 100007 0), (18, AV.d (D.list 2 v3)), (19, AV.d (D.int IntKind.i64 v4)), (20, AV.d (D.int IntKind.i64 v5))] [(100007, Blk.arr 26 1 0 v6)]
theorem F105.L5.zero (k : Nat) (call : CallF)  (v0 : Ovi.Rows) (v1 : Ovi.Rows) (v2 : Ovi.Rows) (v3 : Ovi.Rows) (v4 : Int) (v5 : Int) (v6 : List (List D)) : F105.L5 k call  0 v0 v1 v2 v3 v4 v5 v6 = none := by kernel_rfl
theorem F105.L5.succ (k : Nat) (call : CallF)  (n : Nat) (v0 : Ovi.Rows) (v1 : Ovi.Rows) (v2 : Ovi.Rows) (v3 : Ovi.Rows) (v4 : Int) (v5 : Int) (v6 : List (List D)) : F105.L5 k call  (n + 1) v0 v1 v2 v3 v4 v5 v6 = ite' (decide (v5 < v4)) (ite' (inR v5 (List.length v3)) (bindI (cellI IntKind.i64 v3 v5.toNat 0) fun n13 => bindL (cellL 1 v3 v5.toNat 1) fun l14 => ite' (inR (0 : Int) (List.length v1)) (bindI (cellI IntKind.i64 v1 0 0) fun n15 => bindL (cellL 1 v1 0 1) fun l16 => bindR (call 123 [AV.d (D.list 1 v2), AV.agg [AV.d (D.int IntKind.i64 n15), AV.d (D.list 1 l16)], AV.agg [AV.d (D.int IntKind.i64 n13), AV.d (D.list 1 l14)]]) fun r17 => bindL (resO 3 1 2 false 1 r17 0 0) fun l18 => bindB (resB 2 false 1 r17 1 0) fun b19 => ite' (b19) (ite' (inS (1 : Int) (↑(List.length v1) : Int) (List.length v1)) (bindR (call 105 [AV.d (D.list 2 v0), AV.d (D.list 2 (List.drop 1 v1)), AV.d (D.list 1 l18)]) fun r20 => bindL (resO 26 1 1 false 1 r20 0 0) fun l21 => ite' (fits (v6.length + List.length l21)) (F105.L5 k call  (n) (v0) (v1) (v2) (v3) (v4) (IntKind.i64.wrap (v5 + (1 : Int))) (v6 ++ l21)) (none)) (none)) (F105.L5 k call  (n) (v0) (v1) (v2) (v3) (v4) (IntKind.i64.wrap (v5 + (1 : Int))) (v6))) (none)) (none)) (some ([(false, [RL.row 26 1 v6])])) := by kernel_rfl
theorem F105.eq (k : Nat) (call : CallF) (a0 : Ovi.Rows) (a1 : Ovi.Rows) (a2 : Ovi.Rows) : evFnK P hs call (105 : FuncId) k Tryz.f105 [AV.d (D.list 2 a0), AV.d (D.list 2 a1), AV.d (D.list 1 a2)] = ite' ((↑(List.length a1) : Int) == (0 : Int)) (some ([(false, [RL.row 26 1 [[D.list 1 a2]]])])) (F105.L5 k call  (k) (a0) (a1) (a2) (a0) ((↑(List.length a0) : Int)) ((0 : Int)) ([])) := by kernel_rfl
theorem F105.run (k : Nat) (a0 : Ovi.Rows) (a1 : Ovi.Rows) (a2 : Ovi.Rows) : C (k + 1) 105 [AV.d (D.list 2 a0), AV.d (D.list 2 a1), AV.d (D.list 1 a2)] = ite' ((↑(List.length a1) : Int) == (0 : Int)) (some ([(false, [RL.row 26 1 [[D.list 1 a2]]])])) (F105.L5 k (C k)  (k) (a0) (a1) (a2) (a0) ((↑(List.length a0) : Int)) ((0 : Int)) ([])) := (show C (k + 1) 105 [AV.d (D.list 2 a0), AV.d (D.list 2 a1), AV.d (D.list 1 a2)] = evFnK P hs (C k) 105 k Tryz.f105 [AV.d (D.list 2 a0), AV.d (D.list 2 a1), AV.d (D.list 1 a2)] by kernel_rfl).trans (F105.eq k (C k) a0 a1 a2)
theorem F106.eq (k : Nat) (call : CallF)  : evFnK P hs call (106 : FuncId) k Tryz.f106 [] = bindR (call 124 [AV.d (D.list 1 [[D.int IntKind.i64 (10 : Int)]]), AV.d (D.int IntKind.i64 (5 : Int))]) fun r2 => bindL (resO 3 1 1 false 1 r2 0 0) fun l3 => some ([(false, [RL.row 3 1 l3])]) := by kernel_rfl
theorem F106.run (k : Nat)  : C (k + 1) 106 [] = bindR ((C k) 124 [AV.d (D.list 1 [[D.int IntKind.i64 (10 : Int)]]), AV.d (D.int IntKind.i64 (5 : Int))]) fun r2 => bindL (resO 3 1 1 false 1 r2 0 0) fun l3 => some ([(false, [RL.row 3 1 l3])]) := (show C (k + 1) 106 [] = evFnK P hs (C k) 106 k Tryz.f106 [] by kernel_rfl).trans (F106.eq k (C k) )
noncomputable def F108.L2 (k : Nat) (call : CallF)  (n : Nat) (v0 : Ovi.Rows) (v1 : Ovi.Rows) (v2 : Ovi.Rows) (v3 : Int) (v4 : Int) : Option Res := loopFn P hs call 108 k Tryz.f108 [1, 0, 1, 0] [] n [(0, AV.d (D.list 1 v0)), (1, AV.d (D.list 1 v1)), (9, AV.d (D.list 1 v2)), (10, AV.d (D.int IntKind.i64 v3)), (11, AV.d (D.int IntKind.i64 v4))] []
theorem F108.L2.zero (k : Nat) (call : CallF)  (v0 : Ovi.Rows) (v1 : Ovi.Rows) (v2 : Ovi.Rows) (v3 : Int) (v4 : Int) : F108.L2 k call  0 v0 v1 v2 v3 v4 = none := by kernel_rfl
theorem F108.L2.succ (k : Nat) (call : CallF)  (n : Nat) (v0 : Ovi.Rows) (v1 : Ovi.Rows) (v2 : Ovi.Rows) (v3 : Int) (v4 : Int) : F108.L2 k call  (n + 1) v0 v1 v2 v3 v4 = ite' (decide (v4 < v3)) (ite' (inR v4 (List.length v2)) (bindI (cellI IntKind.i64 v2 v4.toNat 0) fun n10 => ite' (decide (v4 ≥ (↑(List.length v1) : Int))) (some ([(false, [RL.d (D.int IntKind.i64 (1 : Int))])])) (ite' (inR v4 (List.length v1)) (bindI (cellI IntKind.i64 v1 v4.toNat 0) fun n11 => bindR (call 116 [AV.d (D.int IntKind.i64 n10), AV.d (D.int IntKind.i64 n11)]) fun r12 => bindI (resI IntKind.i64 1 false 1 r12 0 0) fun n13 => ite' (n13 != (0 : Int)) (some ([(false, [RL.d (D.int IntKind.i64 n13)])])) (F108.L2 k call  (n) (v0) (v1) (v2) (v3) (IntKind.i64.wrap (v4 + (1 : Int))))) (none))) (none)) (ite' (decide ((↑(List.length v0) : Int) < (↑(List.length v1) : Int))) (some ([(false, [RL.d (D.int IntKind.i64 (-1 : Int))])])) (some ([(false, [RL.d (D.int IntKind.i64 (0 : Int))])]))) := by kernel_rfl
theorem F108.eq (k : Nat) (call : CallF) (a0 : Ovi.Rows) (a1 : Ovi.Rows) : evFnK P hs call (108 : FuncId) k Tryz.f108 [AV.d (D.list 1 a0), AV.d (D.list 1 a1)] = F108.L2 k call  (k) (a0) (a1) (a0) ((↑(List.length a0) : Int)) ((0 : Int)) := by kernel_rfl
theorem F108.run (k : Nat) (a0 : Ovi.Rows) (a1 : Ovi.Rows) : C (k + 1) 108 [AV.d (D.list 1 a0), AV.d (D.list 1 a1)] = F108.L2 k (C k)  (k) (a0) (a1) (a0) ((↑(List.length a0) : Int)) ((0 : Int)) := (show C (k + 1) 108 [AV.d (D.list 1 a0), AV.d (D.list 1 a1)] = evFnK P hs (C k) 108 k Tryz.f108 [AV.d (D.list 1 a0), AV.d (D.list 1 a1)] by kernel_rfl).trans (F108.eq k (C k) a0 a1)
theorem F110.eq (k : Nat) (call : CallF) (a0 : Int) : evFnK P hs call (110 : FuncId) k Tryz.f110 [AV.d (D.int IntKind.i64 a0)] = ite' (decide (a0 ≥ (0 : Int))) (some ([(false, [RL.d (D.int IntKind.i64 (0 : Int))]), (false, [RL.d (D.bool false)])])) (bindR (call 60 [AV.d (D.int IntKind.i64 (IntKind.i64.wrap ((-1 : Int) - a0))), AV.d (D.int IntKind.i64 (0 : Int)), AV.d (D.int IntKind.i64 (39 : Int))]) fun r3 => bindB (resB 1 false 1 r3 0 0) fun b4 => ite' (!b4) (some ([(false, [RL.d (D.int IntKind.i64 (0 : Int))]), (false, [RL.d (D.bool false)])])) (some ([(false, [RL.d (D.int IntKind.i64 (IntKind.i64.wrap ((-1 : Int) - a0)))]), (false, [RL.d (D.bool true)])]))) := by kernel_rfl
theorem F110.run (k : Nat) (a0 : Int) : C (k + 1) 110 [AV.d (D.int IntKind.i64 a0)] = ite' (decide (a0 ≥ (0 : Int))) (some ([(false, [RL.d (D.int IntKind.i64 (0 : Int))]), (false, [RL.d (D.bool false)])])) (bindR ((C k) 60 [AV.d (D.int IntKind.i64 (IntKind.i64.wrap ((-1 : Int) - a0))), AV.d (D.int IntKind.i64 (0 : Int)), AV.d (D.int IntKind.i64 (39 : Int))]) fun r3 => bindB (resB 1 false 1 r3 0 0) fun b4 => ite' (!b4) (some ([(false, [RL.d (D.int IntKind.i64 (0 : Int))]), (false, [RL.d (D.bool false)])])) (some ([(false, [RL.d (D.int IntKind.i64 (IntKind.i64.wrap ((-1 : Int) - a0)))]), (false, [RL.d (D.bool true)])]))) := (show C (k + 1) 110 [AV.d (D.int IntKind.i64 a0)] = evFnK P hs (C k) 110 k Tryz.f110 [AV.d (D.int IntKind.i64 a0)] by kernel_rfl).trans (F110.eq k (C k) a0)
theorem F111.eq (k : Nat) (call : CallF) (a0_0 : List UInt8) (a0_1 : Int) (a0_2 : Bool) : evFnK P hs call (111 : FuncId) k Tryz.f111 [AV.agg [AV.d (D.str a0_0), AV.d (D.int IntKind.i64 a0_1), AV.d (D.bool a0_2)]] = ite' ((↑a0_0.length : Int) == (1 : Int)) (ite' (inR (0 : Int) a0_0.length) (ite' (decide (byteAt a0_0 (0 : Int) ≥ (97 : Int))) (ite' (inR (0 : Int) a0_0.length) (ite' (decide (byteAt a0_0 (0 : Int) ≤ (122 : Int))) (bindR (call 60 [AV.d (D.int IntKind.i64 a0_1), AV.d (D.int IntKind.i64 (1 : Int)), AV.d (D.int IntKind.i64 (3 : Int))]) fun r5 => bindB (resB 1 false 1 r5 0 0) fun b6 => some ([(false, [RL.d (D.bool b6)])])) (some ([(false, [RL.d (D.bool false)])]))) (none)) (some ([(false, [RL.d (D.bool false)])]))) (none)) (some ([(false, [RL.d (D.bool false)])])) := by kernel_rfl
theorem F111.run (k : Nat) (a0_0 : List UInt8) (a0_1 : Int) (a0_2 : Bool) : C (k + 1) 111 [AV.agg [AV.d (D.str a0_0), AV.d (D.int IntKind.i64 a0_1), AV.d (D.bool a0_2)]] = ite' ((↑a0_0.length : Int) == (1 : Int)) (ite' (inR (0 : Int) a0_0.length) (ite' (decide (byteAt a0_0 (0 : Int) ≥ (97 : Int))) (ite' (inR (0 : Int) a0_0.length) (ite' (decide (byteAt a0_0 (0 : Int) ≤ (122 : Int))) (bindR ((C k) 60 [AV.d (D.int IntKind.i64 a0_1), AV.d (D.int IntKind.i64 (1 : Int)), AV.d (D.int IntKind.i64 (3 : Int))]) fun r5 => bindB (resB 1 false 1 r5 0 0) fun b6 => some ([(false, [RL.d (D.bool b6)])])) (some ([(false, [RL.d (D.bool false)])]))) (none)) (some ([(false, [RL.d (D.bool false)])]))) (none)) (some ([(false, [RL.d (D.bool false)])])) := (show C (k + 1) 111 [AV.agg [AV.d (D.str a0_0), AV.d (D.int IntKind.i64 a0_1), AV.d (D.bool a0_2)]] = evFnK P hs (C k) 111 k Tryz.f111 [AV.agg [AV.d (D.str a0_0), AV.d (D.int IntKind.i64 a0_1), AV.d (D.bool a0_2)]] by kernel_rfl).trans (F111.eq k (C k) a0_0 a0_1 a0_2)
noncomputable def F115.L3 (k : Nat) (call : CallF)  (n : Nat) (v0 : Int) (v1 : Ovi.Rows) (v2 : Int) (v3 : Int) : Option Res := loopFn P hs call 115 k Tryz.f115 [1, 1, 0, 1, 0] [] n [(3, AV.d (D.int IntKind.i64 v0)), (6, AV.d (D.list 1 v1)), (7, AV.d (D.int IntKind.i64 v2)), (8, AV.d (D.int IntKind.i64 v3))] []
theorem F115.L3.zero (k : Nat) (call : CallF)  (v0 : Int) (v1 : Ovi.Rows) (v2 : Int) (v3 : Int) : F115.L3 k call  0 v0 v1 v2 v3 = none := by kernel_rfl
theorem F115.L3.succ (k : Nat) (call : CallF)  (n : Nat) (v0 : Int) (v1 : Ovi.Rows) (v2 : Int) (v3 : Int) : F115.L3 k call  (n + 1) v0 v1 v2 v3 = ite' (decide (v3 < v2)) (ite' (inR v3 (List.length v1)) (bindI (cellI IntKind.i64 v1 v3.toNat 0) fun n8 => ite' (n8 != v0) (some ([(false, [RL.d (D.int IntKind.i64 n8)])])) (F115.L3 k call  (n) (v0) (v1) (v2) (IntKind.i64.wrap (v3 + (1 : Int))))) (none)) (some ([(false, [RL.d (D.int IntKind.i64 v0)])])) := by kernel_rfl
theorem F115.eq (k : Nat) (call : CallF) (a0 : Ovi.Rows) : evFnK P hs call (115 : FuncId) k Tryz.f115 [AV.d (D.list 1 a0)] = F115.L3 k call  (k) ((0 : Int)) (a0) ((↑(List.length a0) : Int)) ((0 : Int)) := by kernel_rfl
theorem F115.run (k : Nat) (a0 : Ovi.Rows) : C (k + 1) 115 [AV.d (D.list 1 a0)] = F115.L3 k (C k)  (k) ((0 : Int)) (a0) ((↑(List.length a0) : Int)) ((0 : Int)) := (show C (k + 1) 115 [AV.d (D.list 1 a0)] = evFnK P hs (C k) 115 k Tryz.f115 [AV.d (D.list 1 a0)] by kernel_rfl).trans (F115.eq k (C k) a0)
theorem F116.eq (k : Nat) (call : CallF) (a0 : Int) (a1 : Int) : evFnK P hs call (116 : FuncId) k Tryz.f116 [AV.d (D.int IntKind.i64 a0), AV.d (D.int IntKind.i64 a1)] = bindR (call 137 [AV.d (D.int IntKind.i64 a0)]) fun r4 => bindB (resB 1 false 1 r4 0 0) fun b5 => bindR (call 137 [AV.d (D.int IntKind.i64 a1)]) fun r6 => bindB (resB 1 false 1 r6 0 0) fun b7 => ite' (b5) (ite' (b7) (some ([(false, [RL.d (D.int IntKind.i64 (0 : Int))])])) (some ([(false, [RL.d (D.int IntKind.i64 (-1 : Int))])]))) (ite' (b7) (some ([(false, [RL.d (D.int IntKind.i64 (1 : Int))])])) (ite' (decide (a0 < a1)) (some ([(false, [RL.d (D.int IntKind.i64 (-1 : Int))])])) (ite' (decide (a0 > a1)) (some ([(false, [RL.d (D.int IntKind.i64 (1 : Int))])])) (some ([(false, [RL.d (D.int IntKind.i64 (0 : Int))])]))))) := by kernel_rfl
theorem F116.run (k : Nat) (a0 : Int) (a1 : Int) : C (k + 1) 116 [AV.d (D.int IntKind.i64 a0), AV.d (D.int IntKind.i64 a1)] = bindR ((C k) 137 [AV.d (D.int IntKind.i64 a0)]) fun r4 => bindB (resB 1 false 1 r4 0 0) fun b5 => bindR ((C k) 137 [AV.d (D.int IntKind.i64 a1)]) fun r6 => bindB (resB 1 false 1 r6 0 0) fun b7 => ite' (b5) (ite' (b7) (some ([(false, [RL.d (D.int IntKind.i64 (0 : Int))])])) (some ([(false, [RL.d (D.int IntKind.i64 (-1 : Int))])]))) (ite' (b7) (some ([(false, [RL.d (D.int IntKind.i64 (1 : Int))])])) (ite' (decide (a0 < a1)) (some ([(false, [RL.d (D.int IntKind.i64 (-1 : Int))])])) (ite' (decide (a0 > a1)) (some ([(false, [RL.d (D.int IntKind.i64 (1 : Int))])])) (some ([(false, [RL.d (D.int IntKind.i64 (0 : Int))])]))))) := (show C (k + 1) 116 [AV.d (D.int IntKind.i64 a0), AV.d (D.int IntKind.i64 a1)] = evFnK P hs (C k) 116 k Tryz.f116 [AV.d (D.int IntKind.i64 a0), AV.d (D.int IntKind.i64 a1)] by kernel_rfl).trans (F116.eq k (C k) a0 a1)
theorem F117.eq (k : Nat) (call : CallF) (a0_0 : List UInt8) (a0_1 : Int) (a0_2 : Bool) : evFnK P hs call (117 : FuncId) k Tryz.f117 [AV.agg [AV.d (D.str a0_0), AV.d (D.int IntKind.i64 a0_1), AV.d (D.bool a0_2)]] = ite' ((↑a0_0.length : Int) == (1 : Int)) (ite' (!sLess a0_0 ([(97 : UInt8)] : List UInt8)) (ite' (sLess a0_0 ([(122 : UInt8)] : List UInt8) || a0_0 == ([(122 : UInt8)] : List UInt8)) (bindR (call 96 [AV.d (D.int IntKind.i64 a0_1), AV.d (D.int IntKind.i64 (1 : Int)), AV.d (D.int IntKind.i64 (3 : Int))]) fun r5 => bindB (resB 1 false 1 r5 0 0) fun b6 => some ([(false, [RL.d (D.bool b6)])])) (some ([(false, [RL.d (D.bool false)])]))) (some ([(false, [RL.d (D.bool false)])]))) (some ([(false, [RL.d (D.bool false)])])) := by kernel_rfl
theorem F117.run (k : Nat) (a0_0 : List UInt8) (a0_1 : Int) (a0_2 : Bool) : C (k + 1) 117 [AV.agg [AV.d (D.str a0_0), AV.d (D.int IntKind.i64 a0_1), AV.d (D.bool a0_2)]] = ite' ((↑a0_0.length : Int) == (1 : Int)) (ite' (!sLess a0_0 ([(97 : UInt8)] : List UInt8)) (ite' (sLess a0_0 ([(122 : UInt8)] : List UInt8) || a0_0 == ([(122 : UInt8)] : List UInt8)) (bindR ((C k) 96 [AV.d (D.int IntKind.i64 a0_1), AV.d (D.int IntKind.i64 (1 : Int)), AV.d (D.int IntKind.i64 (3 : Int))]) fun r5 => bindB (resB 1 false 1 r5 0 0) fun b6 => some ([(false, [RL.d (D.bool b6)])])) (some ([(false, [RL.d (D.bool false)])]))) (some ([(false, [RL.d (D.bool false)])]))) (some ([(false, [RL.d (D.bool false)])])) := (show C (k + 1) 117 [AV.agg [AV.d (D.str a0_0), AV.d (D.int IntKind.i64 a0_1), AV.d (D.bool a0_2)]] = evFnK P hs (C k) 117 k Tryz.f117 [AV.agg [AV.d (D.str a0_0), AV.d (D.int IntKind.i64 a0_1), AV.d (D.bool a0_2)]] by kernel_rfl).trans (F117.eq k (C k) a0_0 a0_1 a0_2)
theorem F118.eq (k : Nat) (call : CallF) (a0 : Int) : evFnK P hs call (118 : FuncId) k Tryz.f118 [AV.d (D.int IntKind.i64 a0)] = bindR (call 84 [AV.d (D.int IntKind.i64 a0)]) fun r3 => bindB (resB 1 false 1 r3 0 0) fun b4 => some ([(false, [RL.d (D.bool !b4)])]) := by kernel_rfl
theorem F118.run (k : Nat) (a0 : Int) : C (k + 1) 118 [AV.d (D.int IntKind.i64 a0)] = bindR ((C k) 84 [AV.d (D.int IntKind.i64 a0)]) fun r3 => bindB (resB 1 false 1 r3 0 0) fun b4 => some ([(false, [RL.d (D.bool !b4)])]) := (show C (k + 1) 118 [AV.d (D.int IntKind.i64 a0)] = evFnK P hs (C k) 118 k Tryz.f118 [AV.d (D.int IntKind.i64 a0)] by kernel_rfl).trans (F118.eq k (C k) a0)
noncomputable def F119.L3 (k : Nat) (call : CallF)  (n : Nat) (v0 : Ovi.Rows) (v1 : Int) (v2 : Int) (v3 : List (List D)) : Option Res := loopFn P hs call 119 k Tryz.f119 [1, 1, 0, 1, 0] [] n [(3, AV.own 100003 0), (9, AV.d (D.list 1 v0)), (10, AV.d (D.int IntKind.i64 v1)), (11, AV.d (D.int IntKind.i64 v2))] [(100003, Blk.arr 3 1 0 v3)]
theorem F119.L3.zero (k : Nat) (call : CallF)  (v0 : Ovi.Rows) (v1 : Int) (v2 : Int) (v3 : List (List D)) : F119.L3 k call  0 v0 v1 v2 v3 = none := by kernel_rfl
theorem F119.L3.succ (k : Nat) (call : CallF)  (n : Nat) (v0 : Ovi.Rows) (v1 : Int) (v2 : Int) (v3 : List (List D)) : F119.L3 k call  (n + 1) v0 v1 v2 v3 = ite' (decide (v2 < v1)) (ite' (inR v2 (List.length v0)) (bindI (cellI IntKind.i64 v0 v2.toNat 0) fun n8 => bindR (call 138 [AV.d (D.int IntKind.i64 n8)]) fun r9 => bindI (resI IntKind.i64 2 false 1 r9 0 0) fun n10 => bindB (resB 2 false 1 r9 1 0) fun b11 => ite' (b11) (ite' (fits (v3.length + [[D.int IntKind.i64 n10]].length)) (F119.L3 k call  (n) (v0) (v1) (IntKind.i64.wrap (v2 + (1 : Int))) (v3 ++ [[D.int IntKind.i64 n10]])) (none)) (F119.L3 k call  (n) (v0) (v1) (IntKind.i64.wrap (v2 + (1 : Int))) (v3))) (none)) (bindR (call 94 [AV.var 0 0, AV.d (D.int IntKind.i64 (↑3 : Int)), AV.d (D.list 1 v3)]) fun r8 => bindL (resO 3 1 1 false 1 r8 0 0) fun l9 => bindR (call 95 [AV.var 0 0, AV.d (D.int IntKind.i64 (↑3 : Int)), AV.d (D.list 1 l9)]) fun r10 => bindL (resO 3 1 2 false 1 r10 0 0) fun l11 => some ([(false, [RL.row 3 1 l11])])) := by kernel_rfl
theorem F119.eq (k : Nat) (call : CallF) (a0 : Ovi.Rows) : evFnK P hs call (119 : FuncId) k Tryz.f119 [AV.d (D.list 1 a0)] = F119.L3 k call  (k) (a0) ((↑(List.length a0) : Int)) ((0 : Int)) ([]) := by kernel_rfl
theorem F119.run (k : Nat) (a0 : Ovi.Rows) : C (k + 1) 119 [AV.d (D.list 1 a0)] = F119.L3 k (C k)  (k) (a0) ((↑(List.length a0) : Int)) ((0 : Int)) ([]) := (show C (k + 1) 119 [AV.d (D.list 1 a0)] = evFnK P hs (C k) 119 k Tryz.f119 [AV.d (D.list 1 a0)] by kernel_rfl).trans (F119.eq k (C k) a0)
noncomputable def F121.L2 (k : Nat) (call : CallF)  (n : Nat) (v0 : Ovi.Rows) (v1 : FuncId) (v2 : Ovi.Rows) (v3 : Int) (v4 : Int) : Option Res := loopFn P hs call 121 k Tryz.f121 [1, 0, 1, 0] [] n [(0, AV.d (D.list 2 v0)), (1, AV.d (D.fn v1 v2)), (7, AV.d (D.int IntKind.i64 v3)), (8, AV.d (D.int IntKind.i64 v4))] []
theorem F121.L2.zero (k : Nat) (call : CallF)  (v0 : Ovi.Rows) (v1 : FuncId) (v2 : Ovi.Rows) (v3 : Int) (v4 : Int) : F121.L2 k call  0 v0 v1 v2 v3 v4 = none := by kernel_rfl
theorem F121.L2.succ (k : Nat) (call : CallF)  (n : Nat) (v0 : Ovi.Rows) (v1 : FuncId) (v2 : Ovi.Rows) (v3 : Int) (v4 : Int) : F121.L2 k call  (n + 1) v0 v1 v2 v3 v4 = ite' (decide (v4 < v3)) (ite' (inR v4 (List.length v0)) (bindI (cellI IntKind.i64 v0 v4.toNat 0) fun n11 => bindL (cellL 1 v0 v4.toNat 1) fun l12 => bindR (call v1 (AV.agg [AV.d (D.int IntKind.i64 n11), AV.d (D.list 1 l12)] :: [].append (List.map (fun (c : List D) => AV.cap c 0) v2))) fun r13 => bindB (resB 1 false 1 r13 0 0) fun b14 => ite' (b14) (some ([(false, [RL.d (D.int IntKind.i64 v4)])])) (F121.L2 k call  (n) (v0) (v1) (v2) (v3) (IntKind.i64.wrap (v4 + (1 : Int))))) (none)) (some ([(false, [RL.d (D.int IntKind.i64 (-1 : Int))])])) := by kernel_rfl
theorem F121.eq (k : Nat) (call : CallF) (a0 : Ovi.Rows) (a1 : FuncId) (a1c : Ovi.Rows) : evFnK P hs call (121 : FuncId) k Tryz.f121 [AV.d (D.list 2 a0), AV.d (D.fn a1 a1c)] = F121.L2 k call  (k) (a0) (a1) (a1c) ((↑(List.length a0) : Int)) ((0 : Int)) := by kernel_rfl
theorem F121.run (k : Nat) (a0 : Ovi.Rows) (a1 : FuncId) (a1c : Ovi.Rows) : C (k + 1) 121 [AV.d (D.list 2 a0), AV.d (D.fn a1 a1c)] = F121.L2 k (C k)  (k) (a0) (a1) (a1c) ((↑(List.length a0) : Int)) ((0 : Int)) := (show C (k + 1) 121 [AV.d (D.list 2 a0), AV.d (D.fn a1 a1c)] = evFnK P hs (C k) 121 k Tryz.f121 [AV.d (D.list 2 a0), AV.d (D.fn a1 a1c)] by kernel_rfl).trans (F121.eq k (C k) a0 a1 a1c)
theorem F122.eq (k : Nat) (call : CallF) (a0 : Int) : evFnK P hs call (122 : FuncId) k Tryz.f122 [AV.d (D.int IntKind.i64 a0)] = bindR (call 96 [AV.d (D.int IntKind.i64 a0), AV.d (D.int IntKind.i64 (-10 : Int)), AV.d (D.int IntKind.i64 (4 : Int))]) fun r3 => bindB (resB 1 false 1 r3 0 0) fun b4 => some ([(false, [RL.d (D.bool !b4)])]) := by kernel_rfl
theorem F122.run (k : Nat) (a0 : Int) : C (k + 1) 122 [AV.d (D.int IntKind.i64 a0)] = bindR ((C k) 96 [AV.d (D.int IntKind.i64 a0), AV.d (D.int IntKind.i64 (-10 : Int)), AV.d (D.int IntKind.i64 (4 : Int))]) fun r3 => bindB (resB 1 false 1 r3 0 0) fun b4 => some ([(false, [RL.d (D.bool !b4)])]) := (show C (k + 1) 122 [AV.d (D.int IntKind.i64 a0)] = evFnK P hs (C k) 122 k Tryz.f122 [AV.d (D.int IntKind.i64 a0)] by kernel_rfl).trans (F122.eq k (C k) a0)
noncomputable def F123.L5 (k : Nat) (call : CallF)  (n : Nat) (v0 : Ovi.Rows) (v1 : Int) (v2 : Int) (v3 : Int) (v4 : Ovi.Rows) (v5 : Ovi.Rows) : Option Res := loopFn P hs call 123 k Tryz.f123 [1, 1, 1, 0, 1, 0] [] n [(5, AV.var 320 0), (8, AV.own 100008 0), (20, AV.d (D.list 1 v0)), (21, AV.d (D.int IntKind.i64 v1)), (22, AV.d (D.int IntKind.i64 v2))] [(320, Blk.var [AV.d (D.int IntKind.i64 v3), AV.d (D.list 1 v4)]), (100008, Blk.arr 3 1 0 v5)]
theorem F123.L5.zero (k : Nat) (call : CallF)  (v0 : Ovi.Rows) (v1 : Int) (v2 : Int) (v3 : Int) (v4 : Ovi.Rows) (v5 : Ovi.Rows) : F123.L5 k call  0 v0 v1 v2 v3 v4 v5 = none := by kernel_rfl
theorem F123.L5.succ (k : Nat) (call : CallF)  (n : Nat) (v0 : Ovi.Rows) (v1 : Int) (v2 : Int) (v3 : Int) (v4 : Ovi.Rows) (v5 : Ovi.Rows) : F123.L5 k call  (n + 1) v0 v1 v2 v3 v4 v5 = ite' (decide (v2 < v1)) (ite' (inR v2 (List.length v0)) (bindI (cellI IntKind.i64 v0 v2.toNat 0) fun n14 => ite' (inR v2 (List.length v4)) (bindI (cellI IntKind.i64 v4 v2.toNat 0) fun n15 => ite' (decide (n14 < (0 : Int))) (ite' (n15 != IntKind.i64.wrap ((-1 : Int) - n14)) (some ([(false, [RL.nil]), (false, [RL.d (D.bool false)])])) (F123.L5 k call  (n) (v0) (v1) (IntKind.i64.wrap (v2 + (1 : Int))) (v3) (v4) (v5))) (ite' (inR n14 (List.length v5)) (bindI (cellI IntKind.i64 v5 n14.toNat 0) fun n16 => ite' (n16 == (10 : Int)) (ite' (inR n14 (List.length v5)) (F123.L5 k call  (n) (v0) (v1) (IntKind.i64.wrap (v2 + (1 : Int))) (v3) (v4) (rowsSet v5 n14.toNat 0 [D.int IntKind.i64 n15])) (none)) (ite' (inR n14 (List.length v5)) (bindI (cellI IntKind.i64 v5 n14.toNat 0) fun n17 => ite' (n17 != n15) (some ([(false, [RL.nil]), (false, [RL.d (D.bool false)])])) (F123.L5 k call  (n) (v0) (v1) (IntKind.i64.wrap (v2 + (1 : Int))) (v3) (v4) (v5))) (none))) (none))) (none)) (none)) (some ([(false, [RL.row 3 1 v5]), (false, [RL.d (D.bool true)])])) := by kernel_rfl
theorem F123.eq (k : Nat) (call : CallF) (a0 : Ovi.Rows) (a1_0 : Int) (a1_1 : Ovi.Rows) (a2_0 : Int) (a2_1 : Ovi.Rows) : evFnK P hs call (123 : FuncId) k Tryz.f123 [AV.d (D.list 1 a0), AV.agg [AV.d (D.int IntKind.i64 a1_0), AV.d (D.list 1 a1_1)], AV.agg [AV.d (D.int IntKind.i64 a2_0), AV.d (D.list 1 a2_1)]] = ite' (a1_0 != a2_0) (some ([(false, [RL.nil]), (false, [RL.d (D.bool false)])])) (bindR (call 126 [AV.d (D.list 1 a0)]) fun r7 => bindL (resO 3 1 1 false 1 r7 0 0) fun l8 => F123.L5 k call  (k) (a1_1) ((↑(List.length a1_1) : Int)) ((0 : Int)) (a2_0) (a2_1) (l8)) := by kernel_rfl
theorem F123.run (k : Nat) (a0 : Ovi.Rows) (a1_0 : Int) (a1_1 : Ovi.Rows) (a2_0 : Int) (a2_1 : Ovi.Rows) : C (k + 1) 123 [AV.d (D.list 1 a0), AV.agg [AV.d (D.int IntKind.i64 a1_0), AV.d (D.list 1 a1_1)], AV.agg [AV.d (D.int IntKind.i64 a2_0), AV.d (D.list 1 a2_1)]] = ite' (a1_0 != a2_0) (some ([(false, [RL.nil]), (false, [RL.d (D.bool false)])])) (bindR ((C k) 126 [AV.d (D.list 1 a0)]) fun r7 => bindL (resO 3 1 1 false 1 r7 0 0) fun l8 => F123.L5 k (C k)  (k) (a1_1) ((↑(List.length a1_1) : Int)) ((0 : Int)) (a2_0) (a2_1) (l8)) := (show C (k + 1) 123 [AV.d (D.list 1 a0), AV.agg [AV.d (D.int IntKind.i64 a1_0), AV.d (D.list 1 a1_1)], AV.agg [AV.d (D.int IntKind.i64 a2_0), AV.d (D.list 1 a2_1)]] = evFnK P hs (C k) 123 k Tryz.f123 [AV.d (D.list 1 a0), AV.agg [AV.d (D.int IntKind.i64 a1_0), AV.d (D.list 1 a1_1)], AV.agg [AV.d (D.int IntKind.i64 a2_0), AV.d (D.list 1 a2_1)]] by kernel_rfl).trans (F123.eq k (C k) a0 a1_0 a1_1 a2_0 a2_1)
theorem F137.eq (k : Nat) (call : CallF) (a0 : Int) : evFnK P hs call (137 : FuncId) k Tryz.f137 [AV.d (D.int IntKind.i64 a0)] = some ([(false, [RL.d (D.bool (a0 != a0))])]) := by kernel_rfl
theorem F137.run (k : Nat) (a0 : Int) : C (k + 1) 137 [AV.d (D.int IntKind.i64 a0)] = some ([(false, [RL.d (D.bool (a0 != a0))])]) := (show C (k + 1) 137 [AV.d (D.int IntKind.i64 a0)] = evFnK P hs (C k) 137 k Tryz.f137 [AV.d (D.int IntKind.i64 a0)] by kernel_rfl).trans (F137.eq k (C k) a0)
theorem F138.eq (k : Nat) (call : CallF) (a0 : Int) : evFnK P hs call (138 : FuncId) k Tryz.f138 [AV.d (D.int IntKind.i64 a0)] = bindR (call 96 [AV.d (D.int IntKind.i64 (IntKind.i64.wrap ((-1 : Int) - a0))), AV.d (D.int IntKind.i64 (0 : Int)), AV.d (D.int IntKind.i64 (39 : Int))]) fun r3 => bindB (resB 1 false 1 r3 0 0) fun b4 => ite' (!b4) (some ([(false, [RL.d (D.int IntKind.i64 (0 : Int))]), (false, [RL.d (D.bool false)])])) (some ([(false, [RL.d (D.int IntKind.i64 (IntKind.i64.wrap ((-1 : Int) - a0)))]), (false, [RL.d (D.bool true)])])) := by kernel_rfl
theorem F138.run (k : Nat) (a0 : Int) : C (k + 1) 138 [AV.d (D.int IntKind.i64 a0)] = bindR ((C k) 96 [AV.d (D.int IntKind.i64 (IntKind.i64.wrap ((-1 : Int) - a0))), AV.d (D.int IntKind.i64 (0 : Int)), AV.d (D.int IntKind.i64 (39 : Int))]) fun r3 => bindB (resB 1 false 1 r3 0 0) fun b4 => ite' (!b4) (some ([(false, [RL.d (D.int IntKind.i64 (0 : Int))]), (false, [RL.d (D.bool false)])])) (some ([(false, [RL.d (D.int IntKind.i64 (IntKind.i64.wrap ((-1 : Int) - a0)))]), (false, [RL.d (D.bool true)])])) := (show C (k + 1) 138 [AV.d (D.int IntKind.i64 a0)] = evFnK P hs (C k) 138 k Tryz.f138 [AV.d (D.int IntKind.i64 a0)] by kernel_rfl).trans (F138.eq k (C k) a0)
theorem F145.eq (k : Nat) (call : CallF) (a0 : Int) (a1 : Int) : evFnK P hs call (145 : FuncId) k Tryz.f145 [AV.d (D.int IntKind.i64 a0), AV.d (D.int IntKind.i64 a1)] = bindR (call 137 [AV.d (D.int IntKind.i64 a0)]) fun r4 => bindB (resB 1 false 1 r4 0 0) fun b5 => ite' (b5) (bindR (call 137 [AV.d (D.int IntKind.i64 a1)]) fun r6 => bindB (resB 1 false 1 r6 0 0) fun b7 => ite' (!b7) (some ([(false, [RL.d (D.bool true)])])) (some ([(false, [RL.d (D.bool (decide (a0 < a1)))])]))) (some ([(false, [RL.d (D.bool (decide (a0 < a1)))])])) := by kernel_rfl
theorem F145.run (k : Nat) (a0 : Int) (a1 : Int) : C (k + 1) 145 [AV.d (D.int IntKind.i64 a0), AV.d (D.int IntKind.i64 a1)] = bindR ((C k) 137 [AV.d (D.int IntKind.i64 a0)]) fun r4 => bindB (resB 1 false 1 r4 0 0) fun b5 => ite' (b5) (bindR ((C k) 137 [AV.d (D.int IntKind.i64 a1)]) fun r6 => bindB (resB 1 false 1 r6 0 0) fun b7 => ite' (!b7) (some ([(false, [RL.d (D.bool true)])])) (some ([(false, [RL.d (D.bool (decide (a0 < a1)))])]))) (some ([(false, [RL.d (D.bool (decide (a0 < a1)))])])) := (show C (k + 1) 145 [AV.d (D.int IntKind.i64 a0), AV.d (D.int IntKind.i64 a1)] = evFnK P hs (C k) 145 k Tryz.f145 [AV.d (D.int IntKind.i64 a0), AV.d (D.int IntKind.i64 a1)] by kernel_rfl).trans (F145.eq k (C k) a0 a1)

end Go.Proofs.YtielkoncnddfdaaGreat.Q

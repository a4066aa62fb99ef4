/-
Towards the law: a machine that runs the program's own code on plain data, its soundness, the library by its contracts, and what the functions compute: part 5 (UHa UIa UJa UHb UIb ULa ULb ULc ULd UKa UGr UGs UWa USh URp UCm UEq UCf Srw Rag Ixs URs). No condition.
-/
import Derived.Test.YthicohakeljdcaaGreatQd
import Derived.Test.YthicohakeljdcaaGreatQc
import Derived.Test.YthicohakeljdcaaGreatProg
import Derived.Shelf.RegionOpenPlain
import Derived.Deep.LoopGhost
import Derived.WalkKit
import Derived.KernelRfl
import Derived.Shelf.Small.Wraps
import Derived.Shelf.Sort.Plain
import Derived.Shelf.Bits.Mul64
import Derived.Shelf.Slices.Equal
import Derived.Ground.Names2Prog
import Derived.Shelf.Slices.Clone
import Derived.Shelf.Slices.CompactI
import Derived.Shelf.Slices.Empties2
import Derived.Ground.SlsfProg
import Derived.Shelf.SlSortCmp.Whole1
import Derived.Shelf.Spec.SlicesInsert
import Derived.Lib.SlicesCompact
import Derived.Laws.CopyRow
import Derived.Lib.Walk
import Derived.Shelf.GgSortFunc.Compose
import Derived.Sort.WalkA
import Derived.Sort.WalkC
import Derived.Sort.WalkB12
import Derived.Deep.QuietTactic
import Derived.BigQuiet
import Derived.BigRegion
import Derived.Lib.SliceRun
import Derived.Shelf.SlicesE.Kit
import Derived.Shelf.SlSortCmp.KitK
set_option linter.unusedVariables false
set_option linter.unusedSimpArgs false
/-! UHa -/
namespace Go.Proofs.YthicohakeljdcaaGreat.Q
open Go Ovi

def bo (b : Bool) : Option Res := some [(false, [.d (.bool b)])]
theorem bo_eq {b c : Bool} (h : b = c) : bo b = bo c := by rw [h]
/-- spec.l1In -/
theorem c68 (k : Nat) (a l h : Int) : C (k + 1) 68 [.d (.int .i64 a), .d (.int .i64 l), .d (.int .i64 h)] = bo (decide (l ≤ a ∧ a ≤ h)) := by
  rw [F68.run]
  by_cases h1 : l ≤ a
  · rw [ite'_t (by simpa using h1)]; exact bo_eq (by simp [h1])
  · rw [ite'_f (by simpa using h1)]; exact bo_eq (by simp [h1])
/-- impl.within -/
theorem c73 (k : Nat) (a l h : Int) : C (k + 1) 73 [.d (.int .i64 a), .d (.int .i64 l), .d (.int .i64 h)] = bo (decide (l ≤ a ∧ a ≤ h)) := by
  rw [F73.run]
  by_cases h1 : l ≤ a
  · rw [ite'_t (by simpa using h1)]; exact bo_eq (by simp [h1])
  · rw [ite'_f (by simpa using h1)]; exact bo_eq (by simp [h1])
theorem bB (b : Bool) (k : Bool → Option Res) : (bindR (bo b) fun r => bindB (resB 1 false 1 r 0 0) k) = k b := rfl
theorem iB {x y : Option Res} (b : Bool) : ite' b x y = cond b x y := rfl
variable {k : Nat}
/-- spec.l4Has -/
theorem c81 (zs : List Int) (v : Int) (hk : zs.length < k) (hz : zs.length ≤ maxLen) : C (k + 1) 81 [.d (.list 1 (I1 zs)), .d (.int .i64 v)] = bo (decide (v ∈ zs)) := by
  rw [F81.run]
  have := loop_any (xs := zs) (L := fun n i => F81.L2 k (C k) n (I1 zs) v i) (stop := fun x => x == v) (hit := bo true) (fin := bo false)
    (fun n i x hx => by
      have hi := (List.getElem?_eq_some_iff.1 hx).1
      rw [F81.L2.succ, I1_len, ite'_t (lt_t hi), ite'_t (inR_t hi)]
      simp only [Int.toNat_natCast, cellI_at (I1_get' hx), List.getElem?_cons_zero, Option.bind_some, asI_s, bindI_s]
      rw [next_i hi hz]; rfl)
    (fun n => by rw [F81.L2.succ, I1_len, ite'_f (lt_f (by omega))]; rfl) k hk
  rw [show F81.L2 k (C k) k (I1 zs) v 0 = _ from this]
  by_cases h : v ∈ zs
  · rw [List.any_eq_true.2 ⟨v, h, by simp⟩]; exact bo_eq (by simp [h])
  · rw [show zs.any (fun x => x == v) = false by rw [List.any_eq_false]; intro x hx; simp; intro e; exact h (e ▸ hx)]; exact bo_eq (by simp [h])
/-- slices.Contains on integers -/
theorem c83 (zs : List Int) (v : Int) (hk : zs.length < k) (hz : zs.length ≤ maxLen) : C (k + 2) 83 [.d (.list 1 (I1 zs)), .d (.int .i64 v)] = bo (decide (v ∈ zs)) := by
  rw [F83.run, F85.run, I1_len]
  have := loop_find (xs := zs) (L := fun n i => F85.L2 k (C k) n (I1 zs) v (zs.length : Int) i) (stop := fun _ x => v == x) (hit := fun i => some [(false, [.d (.int .i64 (i : Int))])]) (fin := some [(false, [.d (.int .i64 (-1))])])
    (fun n i x hx => by
      have hi := (List.getElem?_eq_some_iff.1 hx).1
      rw [F85.L2.succ, I1_len, ite'_t (lt_t hi), ite'_t (inR_t hi)]
      simp only [Int.toNat_natCast, cellI_at (I1_get' hx), List.getElem?_cons_zero, Option.bind_some, asI_s, bindI_s]
      rw [next_i hi hz]; rfl)
    (fun n => by rw [F85.L2.succ, ite'_f (lt_f (by omega))]) k hk
  rcases this with ⟨i, x, hx, hst, e⟩ | ⟨hst, e⟩
  · rw [show F85.L2 k (C k) k (I1 zs) v (zs.length : Int) 0 = _ from e]
    simp only [bindR_s, resI_s, bindI_s]
    have : v = x := by simpa using hst
    subst this
    exact bo_eq (by rw [decide_eq_true (List.mem_of_getElem? hx)]; simp)
  · rw [show F85.L2 k (C k) k (I1 zs) v (zs.length : Int) 0 = _ from e]
    simp only [bindR_s, resI_s, bindI_s]
    refine bo_eq ?_
    rw [decide_eq_false (p := v ∈ zs) (fun h => ?_)]
    · rfl
    · obtain ⟨i, hi⟩ := List.mem_iff_getElem?.1 h
      have := hst i v hi
      simp at this
/-- slices.ContainsFunc on integers -/
theorem c163 (zs : List Int) (f : FuncId) (caps : Ovi.Rows) (p : Int → Bool) (hk : zs.length < k) (hz : zs.length ≤ maxLen) (hp : ∀ z ∈ zs, C k f (.d (.int .i64 z) :: caps.map fun c => .cap c 0) = bo (p z)) : C (k + 2) 163 [.d (.list 1 (I1 zs)), .d (.fn f caps)] = bo (zs.any p) := by
  rw [F163.run, F220.run, I1_len]
  have := loop_find (xs := zs) (L := fun n i => F220.L2 k (C k) n (I1 zs) f caps (zs.length : Int) i) (stop := fun _ x => p x) (hit := fun i => some [(false, [.d (.int .i64 (i : Int))])]) (fin := some [(false, [.d (.int .i64 (-1))])])
    (fun n i x hx => by
      have hi := (List.getElem?_eq_some_iff.1 hx).1
      rw [F220.L2.succ, I1_len, ite'_t (lt_t hi), ite'_t (inR_t hi)]
      simp only [Int.toNat_natCast, cellI_at (I1_get' hx), List.getElem?_cons_zero, Option.bind_some, asI_s, bindI_s]
      rw [next_i hi hz]
      have := hp x (List.mem_of_getElem? hx)
      simp only [List.append_eq, List.nil_append] at this ⊢
      rw [this, bB]; rfl)
    (fun n => by rw [F220.L2.succ, ite'_f (lt_f (by omega))]) k hk
  rcases this with ⟨i, x, hx, hst, e⟩ | ⟨hst, e⟩
  · rw [show F220.L2 k (C k) k (I1 zs) f caps (zs.length : Int) 0 = _ from e]
    simp only [bindR_s, resI_s, bindI_s]
    exact bo_eq (by rw [List.any_eq_true.2 ⟨x, List.mem_of_getElem? hx, hst⟩]; simp)
  · rw [show F220.L2 k (C k) k (I1 zs) f caps (zs.length : Int) 0 = _ from e]
    simp only [bindR_s, resI_s, bindI_s]
    refine bo_eq ?_
    rw [List.any_eq_false.2 (fun x hx => ?_)]
    · rfl
    · obtain ⟨i, hi⟩ := List.mem_iff_getElem?.1 hx
      simpa using hst i x hi
/-- slices.ContainsFunc on atoms -/
theorem c217 (xs : List Atom) (f : FuncId) (caps : Ovi.Rows) (p : Atom → Bool) (hk : xs.length < k) (hz : xs.length ≤ maxLen) (hp : ∀ x ∈ xs, C k f (.agg [.d (.int .i64 x.1), .d (.list 1 (I1 x.2))] :: caps.map fun c => .cap c 0) = bo (p x)) : C (k + 2) 217 [.d (.list 2 (A1 xs)), .d (.fn f caps)] = bo (xs.any p) := by
  rw [F217.run, F254.run, A1_len]
  have := loop_find (xs := xs) (L := fun n i => F254.L2 k (C k) n (A1 xs) f caps (xs.length : Int) i) (stop := fun _ x => p x) (hit := fun i => some [(false, [.d (.int .i64 (i : Int))])]) (fin := some [(false, [.d (.int .i64 (-1))])])
    (fun n i x hx => by
      have hi := (List.getElem?_eq_some_iff.1 hx).1
      rw [F254.L2.succ, A1_len, ite'_t (lt_t hi), ite'_t (inR_t hi)]
      simp only [Int.toNat_natCast, cellI_at (A1_get hx), cellL_at (A1_get hx), List.getElem?_cons_zero, List.getElem?_cons_succ, Option.bind_some, asI_s, asL_s, bindI_s, bindL_s]
      rw [next_i hi hz]
      have := hp x (List.mem_of_getElem? hx)
      simp only [List.append_eq, List.nil_append] at this ⊢
      rw [this, bB]; rfl)
    (fun n => by rw [F254.L2.succ, ite'_f (lt_f (by omega))]) k hk
  rcases this with ⟨i, x, hx, hst, e⟩ | ⟨hst, e⟩
  · rw [show F254.L2 k (C k) k (A1 xs) f caps (xs.length : Int) 0 = _ from e]
    simp only [bindR_s, resI_s, bindI_s]
    exact bo_eq (by rw [List.any_eq_true.2 ⟨x, List.mem_of_getElem? hx, hst⟩]; simp)
  · rw [show F254.L2 k (C k) k (A1 xs) f caps (xs.length : Int) 0 = _ from e]
    simp only [bindR_s, resI_s, bindI_s]
    refine bo_eq ?_
    rw [List.any_eq_false.2 (fun x hx => ?_)]
    · rfl
    · obtain ⟨i, hi⟩ := List.mem_iff_getElem?.1 hx
      simpa using hst i x hi

/-! ### relations -/
def Rl : Ty := .list [.str, .int .i64, .bool]
/-- both IsValidRelation -/
def relOk (s : List UInt8) (n : Int) : Bool := decide (s.length = 1) && (decide (byteAt s 0 ≥ 97) && (decide (byteAt s 0 ≤ 122) && decide (1 ≤ n ∧ n ≤ 3)))
theorem c227 (s : List UInt8) (n : Int) (b : Bool) : C (k + 2) 227 [.agg [.d (.str s), .d (.int .i64 n), .d (.bool b)]] = bo (relOk s n) := by
  rw [F227.run]
  by_cases h : s.length = 1
  · obtain ⟨h1, h2⟩ := letter s h
    rw [ite'_t (by simp; omega), h1, h2, c73, bB]
    unfold relOk
    rw [decide_eq_true h]
    cases decide (byteAt s 0 ≥ 97) <;> cases decide (byteAt s 0 ≤ 122) <;> rfl
  · rw [ite'_f (by simp; omega)]
    unfold relOk
    rw [decide_eq_false h]
    rfl
theorem c210 (s : List UInt8) (n : Int) (b : Bool) : C (k + 2) 210 [.agg [.d (.str s), .d (.int .i64 n), .d (.bool b)]] = bo (relOk s n) := by
  rw [F210.run]
  by_cases h : s.length = 1
  · rw [ite'_t (by simp; omega), ite'_t (by simp [inR]; omega), ite'_t (b := inR 0 s.length) (by simp [inR]; omega), c68, bB]
    unfold relOk
    rw [decide_eq_true h]
    cases decide (byteAt s 0 ≥ 97) <;> cases decide (byteAt s 0 ≤ 122) <;> rfl
  · rw [ite'_f (by simp; omega)]
    unfold relOk
    rw [decide_eq_false h]
    rfl
/-- both AreValidRelations answer alike -/
theorem rels {a : Ovi.Rows} (ha : Fit Rl (.list 3 a)) : ∃ b, ∀ k, a.length < k → C (k + 3) 172 [.d (.list 3 a)] = bo b ∧ C (k + 3) 146 [.d (.list 3 a)] = bo b := by
  have hlen := ha.len
  have key : ∀ (m i : Nat), i + m = a.length → ∃ b, ∀ k n, m < n → F172.L2 (k + 2) (C (k + 2)) n a a (a.length : Int) (i : Int) = bo b ∧ F146.L2 (k + 2) (C (k + 2)) n a (i : Int) = bo b := by
    intro m
    induction m with
    | zero =>
      intro i hm
      refine ⟨decide ((a.length : Int) ≤ 6), fun k n hn => ?_⟩
      obtain ⟨n, rfl⟩ : ∃ j, n = j + 1 := ⟨n - 1, by omega⟩
      constructor
      · rw [F172.L2.succ, ite'_f (lt_f (by omega))]; rfl
      · rw [F146.L2.succ, ite'_f (lt_f (by omega))]; rfl
    | succ m ih =>
      intro i hm
      have hi : i < a.length := by omega
      obtain ⟨row, hr, hfr, _⟩ := ha.row hi
      obtain ⟨d0, r0, rfl, f0, h1⟩ := Fits.cons hfr
      obtain ⟨d1, r1, rfl, f1, h1⟩ := Fits.cons h1
      obtain ⟨d2, r2, rfl, f2, h1⟩ := Fits.cons h1
      obtain rfl := Fits.nil h1
      obtain ⟨s, rfl, hs⟩ := f0.str
      obtain ⟨x, rfl, _⟩ := f1.int
      obtain ⟨b, rfl⟩ := f2.bool
      obtain ⟨bb, ih⟩ := ih (i + 1) (by omega)
      have step : ∀ k n, F172.L2 (k + 2) (C (k + 2)) (n + 1) a a (a.length : Int) (i : Int) = ite' (!relOk s x) (bo false) (ite' (decide ((i : Int) > 0)) (ite' (inR (IntKind.i64.wrap ((i : Int) - 1)) a.length) (bindS (cellS a (IntKind.i64.wrap ((i : Int) - 1)).toNat 0) fun s13 => ite' (sLess s s13 || s == s13) (bo false) (F172.L2 (k + 2) (C (k + 2)) n a a (a.length : Int) ((i + 1 : Nat) : Int))) none) (F172.L2 (k + 2) (C (k + 2)) n a a (a.length : Int) ((i + 1 : Nat) : Int))) ∧
          F146.L2 (k + 2) (C (k + 2)) (n + 1) a (i : Int) = ite' (!relOk s x) (bo false) (ite' (decide ((i : Int) > 0)) (ite' (inR (IntKind.i64.wrap ((i : Int) - 1)) a.length) (bindS (cellS a (IntKind.i64.wrap ((i : Int) - 1)).toNat 0) fun s11 => ite' (!sLess s11 s) (bo false) (F146.L2 (k + 2) (C (k + 2)) n a ((i + 1 : Nat) : Int))) none) (F146.L2 (k + 2) (C (k + 2)) n a ((i + 1 : Nat) : Int))) := by
        intro k n
        rw [F172.L2.succ, F146.L2.succ, ite'_t (lt_t hi), ite'_t (inR_t hi), ite'_t (lt_t hi), ite'_t (inR_t hi)]
        simp only [Int.toNat_natCast, cellI_at hr, cellS_at hr, cellB_at hr, List.getElem?_cons_zero, List.getElem?_cons_succ, Option.bind_some, asI_s, asS_s, asB_s, bindI_s, bindS_s, bindB_s]
        rw [c227, c210, next_i hi hlen, bB, bB]
        refine ⟨rfl, ?_⟩
        simp only [show ∀ x y : Option Res, ite' (inR (i : Int) a.length) x y = x from fun x y => ite'_t (inR_t hi)]
        rfl
      cases hv : relOk s x with
      | false =>
        refine ⟨false, fun k n hn => ?_⟩
        obtain ⟨n, rfl⟩ : ∃ j, n = j + 1 := ⟨n - 1, by omega⟩
        obtain ⟨e1, e2⟩ := step k n
        rw [e1, e2, hv]
        exact ⟨rfl, rfl⟩
      | true =>
        by_cases h0 : i = 0
        · subst h0
          refine ⟨bb, fun k n hn => ?_⟩
          obtain ⟨n, rfl⟩ : ∃ j, n = j + 1 := ⟨n - 1, by omega⟩
          obtain ⟨e1, e2⟩ := step k n
          rw [e1, e2, hv]
          exact ih k n (by omega)
        · have hw : IntKind.i64.wrap ((i : Int) - 1) = ((i - 1 : Nat) : Int) := by
            unfold maxLen at hlen
            rw [wrap_id (by omega) (by omega)]; omega
          obtain ⟨row', hr', hfr', _⟩ := ha.row (i := i - 1) (by omega)
          obtain ⟨d0', r0', rfl, f0', h1'⟩ := Fits.cons hfr'
          obtain ⟨s', rfl, hs'⟩ := f0'.str
          have hcs : cellS a ((i - 1 : Nat) : Int).toNat 0 = some s' := by rw [Int.toNat_natCast, cellS_at hr']; rfl
          have hgt : decide ((i : Int) > 0) = true := by simp; omega
          have hin : inR ((i - 1 : Nat) : Int) a.length = true := inR_t (by omega)
          cases hl : sLess s' s with
          | true =>
            refine ⟨bb, fun k n hn => ?_⟩
            obtain ⟨n, rfl⟩ : ∃ j, n = j + 1 := ⟨n - 1, by omega⟩
            obtain ⟨e1, e2⟩ := step k n
            rw [e1, e2, hv, hw, hgt, hin, hcs]
            simp only [bindS_s]
            rw [sLess_total, hl]
            exact ih k n (by omega)
          | false =>
            refine ⟨false, fun k n hn => ?_⟩
            obtain ⟨n, rfl⟩ : ∃ j, n = j + 1 := ⟨n - 1, by omega⟩
            obtain ⟨e1, e2⟩ := step k n
            rw [e1, e2, hv, hw, hgt, hin, hcs]
            simp only [bindS_s]
            rw [sLess_total, hl]
            exact ⟨rfl, rfl⟩
  obtain ⟨b, hb⟩ := key a.length 0 (by omega)
  refine ⟨b, fun k hk => ?_⟩
  rw [F172.run, F146.run]
  exact hb k (k + 2) (by omega)
/-- the arity that a relation has -/
def ar (a : Ovi.Rows) (r : Int) : Int := (cellI .i64 a r.toNat 1).getD (-1)
/-- both IsValidAtom answer alike -/
theorem atoms {a : Ovi.Rows} (ha : Fit Rl (.list 3 a)) (x : Atom) (hx2 : x.2.length ≤ maxLen) : ∃ b, (b = true → (0 ≤ x.1 ∧ x.1 < (a.length : Int)) ∧ (x.2.length : Int) = ar a x.1 ∧ ∀ t ∈ x.2, -10 ≤ t ∧ t ≤ 4) ∧ ∀ k, a.length < k → x.2.length < k → C (k + 5) 219 [.d (.list 3 a), .agg [.d (.int .i64 x.1), .d (.list 1 (I1 x.2))]] = bo b ∧ C (k + 5) 156 [.d (.list 3 a), .agg [.d (.int .i64 x.1), .d (.list 1 (I1 x.2))]] = bo b := by
  have hlen := ha.len
  unfold maxLen at hlen
  obtain ⟨b, hb⟩ := rels ha
  have e : ∀ k, a.length < k → C (k + 4) 172 [.d (.list 3 a)] = bo b ∧ C (k + 4) 146 [.d (.list 3 a)] = bo b := fun k hk => hb (k + 1) (by omega)
  cases b with
  | false =>
    refine ⟨false, fun h => (by cases h), fun k hk hx => ?_⟩
    rw [F219.run, F156.run, (e k hk).1, (e k hk).2, bB, bB]
    exact ⟨rfl, rfl⟩
  | true =>
    by_cases hr : 0 ≤ x.1 ∧ x.1 ≤ (a.length : Int) - 1
    · obtain ⟨i, hi⟩ : ∃ i : Nat, x.1 = i := ⟨x.1.toNat, by omega⟩
      have hia : i < a.length := by omega
      obtain ⟨row, hrow, hfr, _⟩ := ha.row hia
      obtain ⟨d0, r0, rfl, f0, h1⟩ := Fits.cons hfr
      obtain ⟨d1, r1, rfl, f1, h1⟩ := Fits.cons h1
      obtain ⟨n, rfl, _⟩ := f1.int
      have hcn : cellI .i64 a ((i : Int)).toNat 1 = some n := by rw [Int.toNat_natCast, cellI_at hrow]; simp [asI_s]
      by_cases hn : ((I1 x.2).length : Int) = n
      · refine ⟨!(x.2.any fun t => !decide (-10 ≤ t ∧ t ≤ 4)), fun h => ⟨by omega, by unfold ar; rw [hi, hcn]; rw [I1_len] at hn; exact hn, fun t ht => by
          simp only [Bool.not_eq_true', List.any_eq_false, Bool.not_eq_true, decide_eq_false_iff_not, Decidable.not_not] at h
          exact h t ht⟩, fun k hk hx => ?_⟩
        rw [F219.run, F156.run, (e k hk).1, (e k hk).2, bB, bB, ite'_nt, ite'_nt, c73, c68, bB, bB, wrap_id (by omega) (by omega), decide_eq_true hr, ite'_nt, ite'_nt, hi, ite'_t (inR_t hia), ite'_t (inR_t hia), hcn]
        simp only [bindI_s]
        rw [ite'_f (by simpa using hn), ite'_f (b := ((I1 x.2).length : Int) != n) (by simpa using hn)]
        have e69 := c163 (k := k + 2) x.2 255 [] (fun t => !decide (-10 ≤ t ∧ t ≤ 4)) (by omega) hx2 (fun z _ => by
          rw [List.map_nil, F255.run, c73 k, bB]; rfl)
        rw [e69, bB]
        refine ⟨rfl, ?_⟩
        have := loop_any (xs := x.2) (L := fun m j => F156.L4 (k + 4) (C (k + 4)) m j (i : Int) (I1 x.2)) (stop := fun t => !decide (-10 ≤ t ∧ t ≤ 4)) (hit := bo false) (fin := bo true)
          (fun m j t ht => by
            have hj := (List.getElem?_eq_some_iff.1 ht).1
            rw [F156.L4.succ, I1_len, ite'_t (lt_t hj), ite'_t (inR_t hj)]
            simp only [Int.toNat_natCast, cellI_at (I1_get' ht), List.getElem?_cons_zero, Option.bind_some, asI_s, bindI_s]
            rw [c68, bB, next_i hj hx2]; rfl)
          (fun m => by rw [F156.L4.succ, I1_len, ite'_f (lt_f (by omega))]; rfl) (k + 4) (by omega)
        rw [show F156.L4 (k + 4) (C (k + 4)) (k + 4) 0 (i : Int) (I1 x.2) = _ from this]
        cases x.2.any (fun t => !decide (-10 ≤ t ∧ t ≤ 4)) <;> rfl
      · refine ⟨false, fun h => (by cases h), fun k hk hx => ?_⟩
        rw [F219.run, F156.run, (e k hk).1, (e k hk).2, bB, bB, ite'_nt, ite'_nt, c73, c68, bB, bB, wrap_id (by omega) (by omega), decide_eq_true hr, ite'_nt, ite'_nt, hi, ite'_t (inR_t hia), ite'_t (inR_t hia), hcn]
        simp only [bindI_s]
        rw [ite'_t (by simpa using hn), ite'_t (b := ((I1 x.2).length : Int) != n) (by simpa using hn)]
        exact ⟨rfl, rfl⟩
    · refine ⟨false, fun h => (by cases h), fun k hk hx => ?_⟩
      rw [F219.run, F156.run, (e k hk).1, (e k hk).2, bB, bB, ite'_nt, ite'_nt, c73, c68, bB, bB, wrap_id (by omega) (by omega), decide_eq_false hr]
      exact ⟨rfl, rfl⟩
end Go.Proofs.YthicohakeljdcaaGreat.Q

/-! UIa -/
namespace Go.Proofs.YthicohakeljdcaaGreat.Q
open Go Ovi
variable {k : Nat}
/-- what the atoms hold: z is a variable of theirs -/
def isVar (xs : List Atom) (z : Int) : Prop := 0 ≤ z ∧ ∃ x ∈ xs, z ∈ x.2
def terms (xs : List Atom) : Nat := (xs.map fun x => x.2.length).sum
theorem terms_at {xs : List Atom} {i : Nat} {x : Atom} (h : xs[i]? = some x) : terms (xs.take i) + x.2.length = terms (xs.take (i + 1)) := by
  obtain ⟨hi, e⟩ := List.getElem?_eq_some_iff.1 h
  unfold terms
  rw [List.take_succ_eq_append_getElem hi, e]
  simp
theorem terms_le (xs : List Atom) (i : Nat) : terms (xs.take i) ≤ terms xs := by
  have : terms xs = terms (xs.take i) + terms (xs.drop i) := by
    unfold terms
    rw [← List.sum_append, ← List.map_append, List.take_append_drop]
  omega
theorem isVar_take {xs : List Atom} {i : Nat} {x : Atom} (h : xs[i]? = some x) (z : Int) : isVar (xs.take (i + 1)) z ↔ isVar (xs.take i) z ∨ (0 ≤ z ∧ z ∈ x.2) := by
  obtain ⟨hi, e⟩ := List.getElem?_eq_some_iff.1 h
  unfold isVar
  rw [List.take_succ_eq_append_getElem hi, e]
  simp only [List.mem_append, List.mem_singleton]
  constructor
  · rintro ⟨h0, y, hy | rfl, hz⟩
    · exact .inl ⟨h0, y, hy, hz⟩
    · exact .inr ⟨h0, hz⟩
  · rintro (⟨h0, y, hy, hz⟩ | ⟨h0, hz⟩)
    · exact ⟨h0, y, .inl hy, hz⟩
    · exact ⟨h0, x, .inr rfl, hz⟩
/-- impl.Variables -/
theorem c161 (xs : List Atom) (hk : terms xs + xs.length < k) (hs : terms xs + xs.length ≤ 1048576) : ∃ vs, C (k + 1) 161 [.d (.list 2 (A1 xs))] = some [(false, [.row 3 1 (I1 vs)])] ∧ (∀ z, z ∈ vs ↔ isVar xs z) ∧ vs.length ≤ terms xs := by
  rw [F161.run, A1_len]
  have hmax : (1048576 : Nat) ≤ maxLen := by decide
  -- the inner loop
  have inner : ∀ (i : Nat) (x : Atom), xs[i]? = some x → ∀ (m j n k3 : Nat) (acc : List Int), j + m = x.2.length → m < n → acc.length ≤ terms (xs.take i) + j → (∀ z, z ∈ acc ↔ isVar (xs.take i) z ∨ (0 ≤ z ∧ z ∈ x.2.take j)) →
      ∃ acc', F161.L6 k (C k) k3 n (A1 xs) (xs.length : Int) (i : Int) (I1 x.2) (x.2.length : Int) (j : Int) (I1 acc) = F161.L3 k (C k) k3 (A1 xs) (xs.length : Int) ((i + 1 : Nat) : Int) (I1 acc') ∧ acc'.length ≤ terms (xs.take (i + 1)) ∧ ∀ z, z ∈ acc' ↔ isVar (xs.take (i + 1)) z := by
    intro i x hx m
    have hi := (List.getElem?_eq_some_iff.1 hx).1
    have hta := terms_at hx
    have htl := terms_le xs (i + 1)
    induction m with
    | zero =>
      intro j n k3 acc hm hn ha hmem
      obtain ⟨n, rfl⟩ : ∃ j, n = j + 1 := ⟨n - 1, by omega⟩
      obtain rfl : j = x.2.length := by omega
      refine ⟨acc, ?_, by omega, fun z => ?_⟩
      · rw [F161.L6.succ, ite'_f (lt_f (by omega)), next_i hi (m := xs.length) (by omega)]
      · rw [hmem z, isVar_take hx, List.take_length]
    | succ m ih =>
      intro j n k3 acc hm hn ha hmem
      obtain ⟨n, rfl⟩ : ∃ j, n = j + 1 := ⟨n - 1, by omega⟩
      have hj : j < x.2.length := by omega
      have hz := List.getElem?_eq_getElem hj
      rw [F161.L6.succ, ite'_t (lt_t hj), I1_len, ite'_t (inR_t hj)]
      simp only [Int.toNat_natCast, cellI_at (I1_get' hz), List.getElem?_cons_zero, Option.bind_some, asI_s, bindI_s]
      rw [next_i hj (m := x.2.length) (by omega)]
      have htk : ∀ z, z ∈ x.2.take (j + 1) ↔ z ∈ x.2.take j ∨ z = x.2[j] := by
        intro z
        rw [List.take_succ_eq_append_getElem hj]
        simp only [List.mem_append, List.mem_singleton]
      by_cases h0 : 0 ≤ x.2[j]
      · rw [ite'_t (by simpa using h0), ite'_t (fits_t (by simp [I1_len]; omega))]
        have e : I1 acc ++ [[.int .i64 x.2[j]]] = I1 (acc ++ [x.2[j]]) := by simp [I1]
        rw [e]
        refine ih (j + 1) n k3 _ (by omega) (by omega) (by simp; omega) (fun z => ?_)
        rw [List.mem_append, List.mem_singleton, hmem z, htk z]
        constructor
        · rintro ((h | h) | h)
          · exact .inl h
          · exact .inr ⟨h.1, .inl h.2⟩
          · exact .inr ⟨h ▸ h0, .inr h⟩
        · rintro (h | ⟨h1, h | h⟩)
          · exact .inl (.inl h)
          · exact .inl (.inr ⟨h1, h⟩)
          · exact .inr h
      · rw [ite'_f (by simpa using h0)]
        refine ih (j + 1) n k3 _ (by omega) (by omega) (by omega) (fun z => ?_)
        rw [hmem z, htk z]
        constructor
        · rintro (h | h)
          · exact .inl h
          · exact .inr ⟨h.1, .inl h.2⟩
        · rintro (h | ⟨h1, h | h⟩)
          · exact .inl h
          · exact .inr ⟨h1, h⟩
          · exact absurd (h ▸ h1) h0
  have outer : ∀ (m i n : Nat) (acc : List Int), i + m = xs.length → m < n → acc.length ≤ terms (xs.take i) → (∀ z, z ∈ acc ↔ isVar (xs.take i) z) →
      ∃ vs, F161.L3 k (C k) n (A1 xs) (xs.length : Int) (i : Int) (I1 acc) = some [(false, [.row 3 1 (I1 vs)])] ∧ (∀ z, z ∈ vs ↔ isVar xs z) ∧ vs.length ≤ terms xs := by
    intro m
    induction m with
    | zero =>
      intro i n acc hm hn ha hmem
      obtain ⟨n, rfl⟩ : ∃ j, n = j + 1 := ⟨n - 1, by omega⟩
      obtain rfl : i = xs.length := by omega
      rw [List.take_length] at ha hmem
      obtain ⟨k, rfl⟩ : ∃ j, k = j + 1 := ⟨k - 1, by omega⟩
      have e1 : C (k + 1) 215 [.var 0 0, .d (.int .i64 3), .d (.list 1 (I1 acc))] = some [(false, [.row 3 1 (I1 (sortInts acc))])] := by
        show sortP _ = _
        unfold sortP rawArg
        simp only [ints_I1]
        rw [show Nat.ble acc.length 1099511627776 = true from Nat.ble_eq_true_of_le (by omega)]
        rfl
      have hsl : (sortInts acc).length = acc.length := by simp [sortInts]
      have e2 : C (k + 1) 216 [.var 0 0, .d (.int .i64 3), .d (.list 1 (I1 (sortInts acc)))] = some [(false, [.row 3 1 (I1 (Lib.compact (sortInts acc)))]), (true, [])] := by
        show compactP _ = _
        unfold compactP rawArg
        simp only [ints_I1]
        rw [show Nat.ble (sortInts acc).length 1099511627776 = true from Nat.ble_eq_true_of_le (by omega)]
        rfl
      refine ⟨Lib.compact (sortInts acc), ?_, fun z => ?_, ?_⟩
      · rw [F161.L3.succ, ite'_f (lt_f (by omega)), e1]
        simp only [bindR_s, resO_s, bindL_s]
        rw [e2]
        rfl
      · rw [mem_compact, mem_sortInts, hmem z]
      · have := compact_len (sortInts acc)
        omega
    | succ m ih =>
      intro i n acc hm hn ha hmem
      obtain ⟨n, rfl⟩ : ∃ j, n = j + 1 := ⟨n - 1, by omega⟩
      have hi : i < xs.length := by omega
      have hx := List.getElem?_eq_getElem hi
      rw [F161.L3.succ, A1_len, ite'_t (lt_t hi), ite'_t (inR_t hi)]
      simp only [Int.toNat_natCast, cellI_at (A1_get hx), cellL_at (A1_get hx), List.getElem?_cons_zero, List.getElem?_cons_succ, Option.bind_some, asI_s, asL_s, bindI_s, bindL_s]
      have hta := terms_at hx
      have htl := terms_le xs (i + 1)
      rw [I1_len]
      obtain ⟨acc', e, h1, h2⟩ := inner i _ hx (xs[i]).2.length 0 k n acc (by omega) (by omega) (by omega) (fun z => by simp [hmem z])
      rw [show ((0 : Nat) : Int) = 0 from rfl] at e
      rw [e]
      exact ih (i + 1) n acc' (by omega) (by omega) h1 h2
  have := outer xs.length 0 k [] (by omega) (by omega) (by simp) (fun z => by simp [isVar])
  exact this
theorem sortP_show : True := trivial
/-- spec.l4Put -/
theorem c147 (zs : List Int) (v : Int) (hk : zs.length < k) (hz : zs.length ≤ 1048576) : ∃ r ws, C (k + 1) 147 [.d (.list 1 (I1 zs)), .d (.int .i64 v)] = some r ∧ resL 1 1 false 1 r 0 0 = some (I1 ws) ∧ (∀ z, z ∈ ws ↔ z ∈ zs ∨ z = v) ∧ ws.length ≤ zs.length + 1 := by
  rw [F147.run]
  have hmax : (1048576 : Nat) ≤ maxLen := by decide
  have ins : ∀ i : Nat, i ≤ zs.length → ∃ r ws, (ite' (inS (i : Int) ((I1 zs).length : Int) (I1 zs).length) (ite' (fits (([[D.int .i64 v]] : Ovi.Rows).length + ((I1 zs).drop (i : Int).toNat).length)) (ite' (inS (0 : Int) (i : Int) (I1 zs).length) (ite' (fits ((I1 zs).take (i : Int).toNat).length) (ite' (fits (((I1 zs).take (i : Int).toNat).length + List.length ([[D.int .i64 v]] ++ (I1 zs).drop (i : Int).toNat))) (some ([(false, [RL.row 3 1 ((I1 zs).take (i : Int).toNat ++ ([[D.int .i64 v]] ++ (I1 zs).drop (i : Int).toNat))])] : Res)) none) none) none) none) none) = some r ∧ resL 1 1 false 1 r 0 0 = some (I1 ws) ∧ (∀ z, z ∈ ws ↔ z ∈ zs ∨ z = v) ∧ ws.length ≤ zs.length + 1 := by
    intro i hi
    rw [I1_len, ite'_t (by simp [inS]; omega), ite'_t (fits_t (by simp [I1_len]; omega)), ite'_t (by simp [inS]; omega), ite'_t (fits_t (by simp [I1_len]; omega)), ite'_t (fits_t (by simp [I1_len]; omega))]
    refine ⟨_, zs.take i ++ v :: zs.drop i, rfl, ?_, fun z => ?_, by simp; omega⟩
    · rw [resL_s]
      simp [I1]
    · have : z ∈ zs ↔ z ∈ zs.take i ∨ z ∈ zs.drop i := by rw [← List.mem_append, List.take_append_drop]
      rw [this, List.mem_append, List.mem_cons]
      constructor
      · rintro (h | h | h)
        · exact .inl (.inl h)
        · exact .inr h
        · exact .inl (.inr h)
      · rintro ((h | h) | h)
        · exact .inl h
        · exact .inr (.inr h)
        · exact .inr (.inl h)
  have main : ∀ (m i n : Nat), i + m = zs.length → m < n → ∃ r ws, F147.L2 k (C k) n (I1 zs) v (i : Int) = some r ∧ resL 1 1 false 1 r 0 0 = some (I1 ws) ∧ (∀ z, z ∈ ws ↔ z ∈ zs ∨ z = v) ∧ ws.length ≤ zs.length + 1 := by
    intro m
    induction m with
    | zero =>
      intro i n hm hn
      obtain ⟨n, rfl⟩ : ∃ j, n = j + 1 := ⟨n - 1, by omega⟩
      obtain ⟨r, ws, h1, h2⟩ := ins i (by omega)
      refine ⟨r, ws, ?_, h2⟩
      rw [F147.L2.succ]
      rw [ite'_f (b := decide ((i : Int) < ((I1 zs).length : Int))) (by rw [I1_len]; exact lt_f (by omega))]
      rw [ite'_f (b := decide ((i : Int) < ((I1 zs).length : Int))) (by rw [I1_len]; exact lt_f (by omega))]
      exact h1
    | succ m ih =>
      intro i n hm hn
      obtain ⟨n, rfl⟩ : ∃ j, n = j + 1 := ⟨n - 1, by omega⟩
      have hi : i < zs.length := by omega
      have hx := List.getElem?_eq_getElem hi
      obtain ⟨r, ws, h1, h2⟩ := ins i (by omega)
      rw [F147.L2.succ]
      rw [ite'_t (b := decide ((i : Int) < ((I1 zs).length : Int))) (by rw [I1_len]; exact lt_t hi)]
      rw [ite'_t (b := inR (i : Int) (I1 zs).length) (by rw [I1_len]; exact inR_t hi)]
      rw [show cellI .i64 (I1 zs) (i : Int).toNat 0 = some zs[i] by rw [Int.toNat_natCast, cellI_at (I1_get' hx)]; rfl]
      simp only [bindI_s]
      by_cases hlt : zs[i] < v
      · rw [ite'_t (by simpa using hlt), next_i hi (m := zs.length) (by omega)]
        exact ih (i + 1) n (by omega) (by omega)
      · rw [ite'_f (b := decide (zs[i] < v)) (by simpa using hlt)]
        rw [ite'_t (b := decide ((i : Int) < ((I1 zs).length : Int))) (by rw [I1_len]; exact lt_t hi)]
        rw [ite'_t (b := inR (i : Int) (I1 zs).length) (by rw [I1_len]; exact inR_t hi)]
        by_cases heq : zs[i] = v
        · rw [ite'_t (b := zs[i] == v) (by simpa using heq)]
          refine ⟨_, zs, rfl, resL_d _ _, fun z => ⟨.inl, ?_⟩, by omega⟩
          rintro (h | h)
          · exact h
          · rw [h, ← heq]; exact List.getElem_mem hi
        · rw [ite'_f (b := zs[i] == v) (by simpa using heq)]
          exact ⟨r, ws, h1, h2⟩
  have := main zs.length 0 k (by omega) (by omega)
  exact this
/-- spec.Variables -/
theorem c155 (xs : List Atom) (hk : terms xs + xs.length < k) (hs : terms xs + xs.length ≤ 1048576) : ∃ vs, C (k + 2) 155 [.d (.list 2 (A1 xs))] = some [(false, [.d (.list 1 (I1 vs))])] ∧ (∀ z, z ∈ vs ↔ isVar xs z) ∧ vs.length ≤ terms xs := by
  rw [F155.run]
  have hmax : (1048576 : Nat) ≤ maxLen := by decide
  have inner : ∀ (i : Nat) (x : Atom), xs[i]? = some x → ∀ (m j n k3 : Nat) (acc : List Int), j + m = x.2.length → m < n → acc.length ≤ terms (xs.take i) + j → (∀ z, z ∈ acc ↔ isVar (xs.take i) z ∨ (0 ≤ z ∧ z ∈ x.2.take j)) →
      ∃ acc', F155.L6 (k + 1) (C (k + 1)) k3 n (A1 xs) (I1 acc) (i : Int) (j : Int) = F155.L3 (k + 1) (C (k + 1)) k3 (A1 xs) (I1 acc') ((i + 1 : Nat) : Int) ∧ acc'.length ≤ terms (xs.take (i + 1)) ∧ ∀ z, z ∈ acc' ↔ isVar (xs.take (i + 1)) z := by
    intro i x hx m
    have hi := (List.getElem?_eq_some_iff.1 hx).1
    have hta := terms_at hx
    have htl := terms_le xs (i + 1)
    have hcell : cellL 1 (A1 xs) ((i : Int)).toNat 1 = some (I1 x.2) := by rw [Int.toNat_natCast, cellL_at (A1_get hx)]; rfl
    have hin : inR (i : Int) (A1 xs).length = true := by rw [A1_len]; exact inR_t hi
    induction m with
    | zero =>
      intro j n k3 acc hm hn ha hmem
      obtain ⟨n, rfl⟩ : ∃ j, n = j + 1 := ⟨n - 1, by omega⟩
      obtain rfl : j = x.2.length := by omega
      refine ⟨acc, ?_, by omega, fun z => ?_⟩
      · rw [F155.L6.succ, ite'_t hin, hcell, bindL_s, I1_len, ite'_f (lt_f (by omega)), next_i hi (m := xs.length) (by omega)]
      · rw [hmem z, isVar_take hx, List.take_length]
    | succ m ih =>
      intro j n k3 acc hm hn ha hmem
      obtain ⟨n, rfl⟩ : ∃ j, n = j + 1 := ⟨n - 1, by omega⟩
      have hj : j < x.2.length := by omega
      have hz := List.getElem?_eq_getElem hj
      have hcz : cellI .i64 (I1 x.2) ((j : Int)).toNat 0 = some x.2[j] := by rw [Int.toNat_natCast, cellI_at (I1_get' hz)]; rfl
      have hinj : inR (j : Int) (I1 x.2).length = true := by rw [I1_len]; exact inR_t hj
      rw [F155.L6.succ, ite'_t hin, hcell, bindL_s, ite'_t (b := decide ((j : Int) < ((I1 x.2).length : Int))) (by rw [I1_len]; exact lt_t hj), ite'_t hin]
      simp only [bindL_s]
      rw [ite'_t hinj, hcz]
      simp only [bindI_s]
      rw [next_i hj (m := x.2.length) (by omega)]
      have htk : ∀ z, z ∈ x.2.take (j + 1) ↔ z ∈ x.2.take j ∨ z = x.2[j] := by
        intro z
        rw [List.take_succ_eq_append_getElem hj]
        simp only [List.mem_append, List.mem_singleton]
      by_cases h0 : 0 ≤ x.2[j]
      · obtain ⟨r, ws, e1, e2, e3, e4⟩ := c147 (k := k) acc x.2[j] (by omega) (by omega)
        rw [ite'_t (by simpa using h0), ite'_t hin, ite'_t hinj, e1]
        simp only [bindR_s]
        rw [e2, bindL_s]
        refine ih (j + 1) n k3 _ (by omega) (by omega) (by omega) (fun z => ?_)
        rw [e3 z, hmem z, htk z]
        constructor
        · rintro ((h | h) | h)
          · exact .inl h
          · exact .inr ⟨h.1, .inl h.2⟩
          · exact .inr ⟨h ▸ h0, .inr h⟩
        · rintro (h | ⟨h1, h | h⟩)
          · exact .inl (.inl h)
          · exact .inl (.inr ⟨h1, h⟩)
          · exact .inr h
      · rw [ite'_f (by simpa using h0)]
        refine ih (j + 1) n k3 _ (by omega) (by omega) (by omega) (fun z => ?_)
        rw [hmem z, htk z]
        constructor
        · rintro (h | h)
          · exact .inl h
          · exact .inr ⟨h.1, .inl h.2⟩
        · rintro (h | ⟨h1, h | h⟩)
          · exact .inl h
          · exact .inr ⟨h1, h⟩
          · exact absurd (h ▸ h1) h0
  have outer : ∀ (m i n : Nat) (acc : List Int), i + m = xs.length → m < n → acc.length ≤ terms (xs.take i) → (∀ z, z ∈ acc ↔ isVar (xs.take i) z) →
      ∃ vs, F155.L3 (k + 1) (C (k + 1)) n (A1 xs) (I1 acc) (i : Int) = some [(false, [.d (.list 1 (I1 vs))])] ∧ (∀ z, z ∈ vs ↔ isVar xs z) ∧ vs.length ≤ terms xs := by
    intro m
    induction m with
    | zero =>
      intro i n acc hm hn ha hmem
      obtain ⟨n, rfl⟩ : ∃ j, n = j + 1 := ⟨n - 1, by omega⟩
      obtain rfl : i = xs.length := by omega
      rw [List.take_length] at ha hmem
      exact ⟨acc, by rw [F155.L3.succ, A1_len, ite'_f (lt_f (by omega))], hmem, ha⟩
    | succ m ih =>
      intro i n acc hm hn ha hmem
      obtain ⟨n, rfl⟩ : ∃ j, n = j + 1 := ⟨n - 1, by omega⟩
      have hi : i < xs.length := by omega
      have hx := List.getElem?_eq_getElem hi
      have hta := terms_at hx
      have htl := terms_le xs (i + 1)
      rw [F155.L3.succ, A1_len, ite'_t (lt_t hi)]
      obtain ⟨acc', e, h1, h2⟩ := inner i _ hx (xs[i]).2.length 0 (k + 1) n acc (by omega) (by omega) (by omega) (fun z => by simp [hmem z])
      rw [show ((0 : Nat) : Int) = 0 from rfl] at e
      rw [e]
      exact ih (i + 1) n acc' (by omega) (by omega) h1 h2
  have := outer xs.length 0 (k + 1) [] (by omega) (by omega) (by simp) (fun z => by simp [isVar])
  exact this
end Go.Proofs.YthicohakeljdcaaGreat.Q

/-! UJa -/
namespace Go.Proofs.YthicohakeljdcaaGreat.Q
open Go Ovi
variable {k : Nat}
noncomputable def vB (xs : List Atom) (z : Int) : Bool := @decide (isVar xs z) (Classical.propDecidable _)
theorem vB_mem {xs : List Atom} {vs : List Int} (h : ∀ z, z ∈ vs ↔ isVar xs z) (z : Int) : decide (z ∈ vs) = vB xs z := by
  unfold vB
  rw [Bool.eq_iff_iff]
  simp [h z]
/-- what both IsValidAtom say -/
def Valid (a : Ovi.Rows) (xs : List Atom) (valid : Atom → Bool) : Prop := ∀ x ∈ xs, ∀ k, a.length < k → x.2.length < k → C (k + 5) 219 [.d (.list 3 a), .agg [.d (.int .i64 x.1), .d (.list 1 (I1 x.2))]] = bo (valid x) ∧ C (k + 5) 156 [.d (.list 3 a), .agg [.d (.int .i64 x.1), .d (.list 1 (I1 x.2))]] = bo (valid x)
theorem valid_ex {a : Ovi.Rows} (ha : Fit Rl (.list 3 a)) (xs : List Atom) (hx : ∀ x ∈ xs, x.2.length ≤ maxLen) : ∃ valid : Atom → Bool, (∀ x ∈ xs, valid x = true → (0 ≤ x.1 ∧ x.1 < (a.length : Int)) ∧ (x.2.length : Int) = ar a x.1 ∧ ∀ t ∈ x.2, -10 ≤ t ∧ t ≤ 4) ∧ Valid a xs valid := by
  have : ∀ x : Atom, ∃ b, x ∈ xs → (b = true → (0 ≤ x.1 ∧ x.1 < (a.length : Int)) ∧ (x.2.length : Int) = ar a x.1 ∧ ∀ t ∈ x.2, -10 ≤ t ∧ t ≤ 4) ∧ ∀ k, a.length < k → x.2.length < k → C (k + 5) 219 [.d (.list 3 a), .agg [.d (.int .i64 x.1), .d (.list 1 (I1 x.2))]] = bo b ∧ C (k + 5) 156 [.d (.list 3 a), .agg [.d (.int .i64 x.1), .d (.list 1 (I1 x.2))]] = bo b := by
    intro x
    by_cases h : x ∈ xs
    · obtain ⟨b, hb⟩ := atoms ha x (hx x h)
      exact ⟨b, fun _ => hb⟩
    · exact ⟨false, fun h' => absurd h' h⟩
  obtain ⟨valid, hv⟩ := Classical.axiomOfChoice this
  exact ⟨valid, fun x hx => (hv x hx).1, fun x hx => (hv x hx).2⟩
noncomputable def qOk (valid : Atom → Bool) (xs : List Atom) (out : List Int) : Bool := (decide ((1 : Int) ≤ (xs.length : Int) ∧ (xs.length : Int) ≤ 3) && xs.all valid) && (decide ((out.length : Int) ≤ 3) && out.all (vB xs))
theorem len_terms {xs : List Atom} {x : Atom} (h : x ∈ xs) : x.2.length ≤ terms xs := by
  induction xs with
  | nil => cases h
  | cons y ys ih =>
    have e : terms (y :: ys) = y.2.length + terms ys := by simp [terms]
    rw [e]
    rcases List.mem_cons.1 h with rfl | h
    · omega
    · have := ih h; omega
theorem any_not {α : Type} (l : List α) (p : α → Bool) : (!(l.any fun x => !p x)) = l.all p := by
  induction l with
  | nil => rfl
  | cons x l ih => rw [List.any_cons, List.all_cons, ← ih]; cases p x <;> simp
/-- impl.IsValidQuery -/
theorem c95 {a : Ovi.Rows} {xs : List Atom} {out : List Int} {valid : Atom → Bool} (hv : Valid a xs valid) (hk : 2000000 ≤ k) (ha : a.length ≤ 1048576) (hs : terms xs + xs.length ≤ 1048576) (ho : out.length ≤ 1048576) :
    C (k + 10) 95 [.d (.list 3 a), .agg [.d (.list 1 (I1 out)), .d (.list 2 (A1 xs))]] = bo (qOk valid xs out) := by
  have hmax : (1048576 : Nat) ≤ maxLen := by decide
  obtain ⟨vs, e, hm, hl⟩ := c161 (k := k + 8) xs (by omega) hs
  rw [F95.run, e]
  simp only [bindR_s, resO_s, bindL_s]
  have e68 : C (k + 9) 162 [.d (.list 3 a), .d (.list 2 (A1 xs)), .d (.int .i64 3)] = bo (decide ((1 : Int) ≤ (xs.length : Int) ∧ (xs.length : Int) ≤ 3) && xs.all valid) := by
    rw [F162.run, c73, bB, A1_len]
    cases decide ((1 : Int) ≤ (xs.length : Int) ∧ (xs.length : Int) ≤ 3) with
    | false => rfl
    | true =>
      rw [ite'_t rfl, c217 (k := k + 6) xs 218 [[.list 3 a]] (fun x => !valid x) (by omega) (by omega) (fun x hx => by
        have := len_terms hx
        rw [List.map_cons, List.map_nil, F218.run, (hv x hx k (by omega) (by omega)).1, bB]; rfl), bB]
      exact bo_eq (any_not xs valid)
  rw [e68, bB, I1_len]
  unfold qOk
  cases (decide ((1 : Int) ≤ (xs.length : Int) ∧ (xs.length : Int) ≤ 3) && xs.all valid) with
  | false => rfl
  | true =>
    rw [ite'_t rfl]
    by_cases h3 : (out.length : Int) ≤ 3
    · rw [ite'_t (by simpa using h3), c163 (k := k + 7) out 164 [[.list 1 (I1 vs)]] (fun z => !vB xs z) (by omega) (by omega) (fun z hz => by
        rw [List.map_cons, List.map_nil, F164.run, c83 (k := k + 4) vs z (by omega) (by omega), bB, vB_mem hm]; rfl), bB, decide_eq_true h3]
      exact bo_eq (any_not out (vB xs))
    · rw [ite'_f (by simpa using h3), decide_eq_false h3]
      rfl
/-- spec.IsValidQuery -/
theorem c89 {a : Ovi.Rows} {xs : List Atom} {out : List Int} {valid : Atom → Bool} (hv : Valid a xs valid) (hk : 2000000 ≤ k) (ha : a.length ≤ 1048576) (hs : terms xs + xs.length ≤ 1048576) (ho : out.length ≤ 1048576) :
    C (k + 10) 89 [.d (.list 3 a), .agg [.d (.list 1 (I1 out)), .d (.list 2 (A1 xs))]] = bo (qOk valid xs out) := by
  have hmax : (1048576 : Nat) ≤ maxLen := by decide
  obtain ⟨vs, e, hm, hl⟩ := c155 (k := k + 7) xs (by omega) hs
  rw [F89.run, e]
  simp only [bindR_s, resL_d, bindL_s]
  have l14 : F89.L8 (k + 9) (C (k + 9)) (k + 9) (I1 vs) 0 (I1 out) (A1 xs) = cond (out.any fun z => !vB xs z) (bo false) (bo (decide ((1 : Int) ≤ (xs.length : Int) ∧ (xs.length : Int) ≤ 3) && decide ((out.length : Int) ≤ 3))) :=
    loop_any (xs := out) (L := fun n i => F89.L8 (k + 9) (C (k + 9)) n (I1 vs) i (I1 out) (A1 xs)) (stop := fun z => !vB xs z)
      (fun n i z hz => by
        have hi := (List.getElem?_eq_some_iff.1 hz).1
        rw [F89.L8.succ, I1_len, ite'_t (lt_t hi), ite'_t (inR_t hi)]
        simp only [Int.toNat_natCast, cellI_at (I1_get' hz), List.getElem?_cons_zero, Option.bind_some, asI_s, bindI_s]
        rw [c81 (k := k + 8) vs z (by omega) (by omega), bB, vB_mem hm, next_i hi (m := out.length) (by omega)]; rfl)
      (fun n => by
        rw [F89.L8.succ, I1_len, ite'_f (lt_f (by omega)), c68, bB, A1_len]
        cases decide ((1 : Int) ≤ (xs.length : Int) ∧ (xs.length : Int) ≤ 3) <;> rfl) (k + 9) (by omega)
  have l3 : F89.L3 (k + 9) (C (k + 9)) (k + 9) a (I1 vs) 0 (I1 out) (A1 xs) = cond (xs.any fun x => !valid x) (bo false) (F89.L8 (k + 9) (C (k + 9)) (k + 9) (I1 vs) 0 (I1 out) (A1 xs)) :=
    loop_any (xs := xs) (L := fun n i => F89.L3 (k + 9) (C (k + 9)) n a (I1 vs) i (I1 out) (A1 xs)) (stop := fun x => !valid x)
      (fun n i x hx => by
        have hi := (List.getElem?_eq_some_iff.1 hx).1
        have := len_terms (List.mem_of_getElem? hx)
        rw [F89.L3.succ, A1_len, ite'_t (lt_t hi), ite'_t (inR_t hi)]
        simp only [Int.toNat_natCast, cellI_at (A1_get hx), cellL_at (A1_get hx), List.getElem?_cons_zero, List.getElem?_cons_succ, Option.bind_some, asI_s, asL_s, bindI_s, bindL_s]
        rw [(hv x (List.mem_of_getElem? hx) (k + 4) (by omega) (by omega)).2, bB, next_i hi (m := xs.length) (by omega)]; rfl)
      (fun n => by rw [F89.L3.succ, A1_len, ite'_f (lt_f (by omega))]) (k + 9) (by omega)
  rw [l3, l14]
  unfold qOk
  rw [← any_not xs valid, ← any_not out (vB xs)]
  cases (xs.any fun x => !valid x) <;> cases (out.any fun z => !vB xs z) <;> cases decide ((1 : Int) ≤ (xs.length : Int) ∧ (xs.length : Int) ≤ 3) <;> cases decide ((out.length : Int) ≤ 3) <;> rfl
def In1 : Ty := .list [.int .i64]
def At : Ty := .list [.int .i64, .list [.int .i64]]
theorem sz_atoms {xs : List Atom} : szD (.list 2 (A1 xs)) = xs.length + terms xs := by
  simp only [szD, A1_len, szR_A1]
  rfl
theorem sz_ints {zs : List Int} : szD (.list 1 (I1 zs)) = zs.length := by simp only [szD, I1_len, szR_I1, Nat.add_zero]
theorem sz_rels {a : Ovi.Rows} : a.length ≤ szD (.list 3 a) := by simp only [szD]; omega
end Go.Proofs.YthicohakeljdcaaGreat.Q

/-! UHb -/
namespace Go.Proofs.YthicohakeljdcaaGreat.Q
open Go Ovi
variable {k : Nat}
/-! ### values -/
def isN (v : Int) : Bool := decide (-40 ≤ v ∧ v ≤ -1)
def okV (v : Int) : Bool := decide (-40 ≤ v ∧ v ≤ 9)
def nn (v : Int) : Option Res := some [(false, [.d (.int .i64 (if isN v then -1 - v else 0))]), (false, [.d (.bool (isN v))])]
theorem nnB (v : Int) (f : Int → Bool → Option Res) : (bindR (nn v) fun r => bindI (resI .i64 2 false 1 r 0 0) fun n => bindB (resB 2 false 1 r 1 0) fun b => f n b) = f (if isN v then -1 - v else 0) (isN v) := rfl
theorem isN_t {v : Int} (h : isN v = true) : -40 ≤ v ∧ v ≤ -1 := of_decide_eq_true h
theorem isN_f {v : Int} (h : isN v = false) : ¬ (-40 ≤ v ∧ v ≤ -1) := of_decide_eq_false h
theorem wrapN {v : Int} (h : inI v) : IntKind.i64.wrap (-1 - v) = -1 - v := by unfold inI at h; exact wrap_id (by omega) (by omega)
/-- spec.NullNumber -/
theorem c80 {v : Int} (h : inI v) : C (k + 2) 80 [.d (.int .i64 v)] = nn v := by
  rw [F80.run]
  by_cases h0 : v ≥ 0
  · rw [ite'_t (by simpa using h0)]
    have : isN v = false := decide_eq_false (by omega)
    simp [nn, this]
  · rw [ite'_f (by simpa using h0), wrapN h, c68, bB]
    by_cases h1 : isN v = true
    · have := isN_t h1
      rw [decide_eq_true (by omega), ite'_nt]
      simp [nn, h1]
    · have h1 : isN v = false := by simpa using h1
      have := isN_f h1
      rw [decide_eq_false (by omega), ite'_nf]
      simp [nn, h1]
/-- impl.NullNumber -/
theorem c82 {v : Int} (h : inI v) : C (k + 2) 82 [.d (.int .i64 v)] = nn v := by
  rw [F82.run, wrapN h, c73, bB]
  by_cases h1 : isN v = true
  · have := isN_t h1
    rw [decide_eq_true (by omega), ite'_nt]
    simp [nn, h1]
  · have h1 : isN v = false := by simpa using h1
    have := isN_f h1
    rw [decide_eq_false (by omega), ite'_nf]
    simp [nn, h1]
/-- spec.IsValidValue -/
theorem c157 {v : Int} (h : inI v) : C (k + 3) 157 [.d (.int .i64 v)] = bo (okV v) := by
  rw [F157.run, c80 h, nnB]
  by_cases h1 : isN v = true
  · have := isN_t h1
    rw [ite'_t h1]
    exact bo_eq (b := true) (by rw [okV, decide_eq_true (by omega)])
  · have h1 : isN v = false := by simpa using h1
    have := isN_f h1
    rw [ite'_f h1, c68, bB]
    refine bo_eq ?_
    unfold okV
    rw [Bool.eq_iff_iff]
    simp only [decide_eq_true_eq]
    omega
/-- impl.IsValidValue -/
theorem c165 (v : Int) : C (k + 2) 165 [.d (.int .i64 v)] = bo (okV v) := by
  rw [F165.run, c73, bB]; rfl
/-- the numbers of the nulls among values -/
def nulls (zs : List Int) : List Int := Lib.compact (sortInts ((zs.filter isN).map fun v => -1 - v))
theorem nulls_ss (zs : List Int) : SS (nulls zs) := ss_compact _
theorem mem_nulls (zs : List Int) (n : Int) : n ∈ nulls zs ↔ ∃ v ∈ zs, isN v = true ∧ n = -1 - v := by
  unfold nulls
  rw [mem_compact, mem_sortInts]
  simp only [List.mem_map, List.mem_filter]
  constructor
  · rintro ⟨v, ⟨h1, h2⟩, rfl⟩; exact ⟨v, h1, h2, rfl⟩
  · rintro ⟨v, h1, h2, rfl⟩; exact ⟨v, ⟨h1, h2⟩, rfl⟩
theorem nulls_len (zs : List Int) : (nulls zs).length ≤ zs.length := by
  unfold nulls
  have h1 := compact_len (sortInts ((zs.filter isN).map fun v => -1 - v))
  have h2 : (sortInts ((zs.filter isN).map fun v => -1 - v)).length = (zs.filter isN).length := by simp [sortInts]
  have h3 := List.length_filter_le isN zs
  omega
/-- impl.nullsOf -/
theorem c212 (zs : List Int) (hI : ∀ z ∈ zs, inI z) (hk : zs.length < k) (hz : zs.length ≤ 1048576) : C (k + 3) 212 [.d (.list 1 (I1 zs))] = some [(false, [.row 3 1 (I1 (nulls zs))])] := by
  rw [F212.run, I1_len]
  have hmax : (1048576 : Nat) ≤ maxLen := by decide
  have main : ∀ (m i n : Nat), i + m = zs.length → m < n → F212.L3 (k + 2) (C (k + 2)) n (I1 zs) (zs.length : Int) (i : Int) (I1 (((zs.take i).filter isN).map fun v => -1 - v)) = some [(false, [.row 3 1 (I1 (nulls zs))])] := by
    intro m
    induction m with
    | zero =>
      intro i n hm hn
      obtain ⟨n, rfl⟩ : ∃ j, n = j + 1 := ⟨n - 1, by omega⟩
      obtain rfl : i = zs.length := by omega
      rw [List.take_length]
      have hf := List.length_filter_le isN zs
      generalize hacc : (zs.filter isN).map (fun v => -1 - v) = acc
      have hal : acc.length ≤ zs.length := by rw [← hacc]; simpa using hf
      have e1 : C (k + 2) 215 [.var 0 0, .d (.int .i64 3), .d (.list 1 (I1 acc))] = some [(false, [.row 3 1 (I1 (sortInts acc))])] := by
        show sortP _ = _
        unfold sortP rawArg
        simp only [ints_I1]
        rw [show Nat.ble acc.length 1099511627776 = true from Nat.ble_eq_true_of_le (by omega)]
        rfl
      have hsl : (sortInts acc).length = acc.length := by simp [sortInts]
      have e2 : C (k + 2) 216 [.var 0 0, .d (.int .i64 3), .d (.list 1 (I1 (sortInts acc)))] = some [(false, [.row 3 1 (I1 (Lib.compact (sortInts acc)))]), (true, [])] := by
        show compactP _ = _
        unfold compactP rawArg
        simp only [ints_I1]
        rw [show Nat.ble (sortInts acc).length 1099511627776 = true from Nat.ble_eq_true_of_le (by omega)]
        rfl
      rw [F212.L3.succ, ite'_f (lt_f (by omega)), e1]
      simp only [bindR_s, resO_s, bindL_s]
      rw [e2]
      unfold nulls
      rw [hacc]
      rfl
    | succ m ih =>
      intro i n hm hn
      obtain ⟨n, rfl⟩ : ∃ j, n = j + 1 := ⟨n - 1, by omega⟩
      have hi : i < zs.length := by omega
      have hx := List.getElem?_eq_getElem hi
      have hft := List.length_filter_le isN (zs.take i)
      rw [F212.L3.succ, I1_len, ite'_t (lt_t hi), ite'_t (inR_t hi)]
      simp only [Int.toNat_natCast, cellI_at (I1_get' hx), List.getElem?_cons_zero, Option.bind_some, asI_s, bindI_s]
      rw [c82 (hI _ (List.getElem_mem hi)), nnB, next_i hi (m := zs.length) (by omega)]
      have hstep : (zs.take (i + 1)).filter isN = (zs.take i).filter isN ++ (if isN zs[i] then [zs[i]] else []) := by
        rw [List.take_succ_eq_append_getElem hi, List.filter_append]
        cases h : isN zs[i] <;> simp [h]
      have := ih (i + 1) n (by omega) (by omega)
      rw [hstep] at this
      cases h : isN zs[i] with
      | true =>
        rw [ite'_t rfl, ite'_t (fits_t (by simp [I1_len] at hft ⊢; omega))]
        rw [h] at this
        simp only [if_true, List.map_append, List.map_cons, List.map_nil] at this ⊢
        rw [← this]
        simp [I1]
      | false =>
        rw [ite'_f rfl]
        rw [h] at this
        simpa using this
  exact main zs.length 0 (k + 2) (by omega) (by omega)
/-- spec.l4Put keeps the order -/
theorem c147s (zs : List Int) (v : Int) (hS : SS zs) (hk : zs.length < k) (hz : zs.length ≤ 1048576) : ∃ r ws, C (k + 1) 147 [.d (.list 1 (I1 zs)), .d (.int .i64 v)] = some r ∧ resL 1 1 false 1 r 0 0 = some (I1 ws) ∧ (∀ z, z ∈ ws ↔ z ∈ zs ∨ z = v) ∧ ws.length ≤ zs.length + 1 ∧ SS ws := by
  rw [F147.run]
  have hmax : (1048576 : Nat) ≤ maxLen := by decide
  have ins : ∀ i : Nat, i ≤ zs.length → (∀ (j : Nat) y, j < i → zs[j]? = some y → y < v) → (∀ y, zs[i]? = some y → v < y) → ∃ r ws, (ite' (inS (i : Int) ((I1 zs).length : Int) (I1 zs).length) (ite' (fits (([[D.int .i64 v]] : Ovi.Rows).length + ((I1 zs).drop (i : Int).toNat).length)) (ite' (inS (0 : Int) (i : Int) (I1 zs).length) (ite' (fits ((I1 zs).take (i : Int).toNat).length) (ite' (fits (((I1 zs).take (i : Int).toNat).length + List.length ([[D.int .i64 v]] ++ (I1 zs).drop (i : Int).toNat))) (some ([(false, [RL.row 3 1 ((I1 zs).take (i : Int).toNat ++ ([[D.int .i64 v]] ++ (I1 zs).drop (i : Int).toNat))])] : Res)) none) none) none) none) none) = some r ∧ resL 1 1 false 1 r 0 0 = some (I1 ws) ∧ (∀ z, z ∈ ws ↔ z ∈ zs ∨ z = v) ∧ ws.length ≤ zs.length + 1 ∧ SS ws := by
    intro i hi hlt hgt
    rw [I1_len, ite'_t (by simp [inS]; omega), ite'_t (fits_t (by simp [I1_len]; omega)), ite'_t (by simp [inS]; omega), ite'_t (fits_t (by simp [I1_len]; omega)), ite'_t (fits_t (by simp [I1_len]; omega))]
    refine ⟨_, zs.take i ++ v :: zs.drop i, rfl, ?_, fun z => ?_, by simp; omega, ?_⟩
    · rw [resL_s]
      simp [I1]
    · have : z ∈ zs ↔ z ∈ zs.take i ∨ z ∈ zs.drop i := by rw [← List.mem_append, List.take_append_drop]
      rw [this, List.mem_append, List.mem_cons]
      constructor
      · rintro (h | h | h)
        · exact .inl (.inl h)
        · exact .inr h
        · exact .inl (.inr h)
      · rintro ((h | h) | h)
        · exact .inl h
        · exact .inr (.inr h)
        · exact .inr (.inl h)
    · have hd : ∀ y ∈ zs.drop i, v < y := by
        intro y hy
        obtain ⟨j, hj⟩ := List.mem_iff_getElem?.1 hy
        rw [List.getElem?_drop] at hj
        have hil : i < zs.length := by have := (List.getElem?_eq_some_iff.1 hj).1; omega
        have h0 := hgt zs[i] (List.getElem?_eq_getElem hil)
        rcases Nat.eq_zero_or_pos j with rfl | hjp
        · rw [Nat.add_zero, List.getElem?_eq_getElem hil] at hj; cases hj; exact h0
        · obtain ⟨hjl, e⟩ := List.getElem?_eq_some_iff.1 hj
          have := List.pairwise_iff_getElem.1 hS i (i + j) hil hjl (by omega)
          omega
      have ht : ∀ y ∈ zs.take i, y < v := by
        intro y hy
        obtain ⟨j, hj⟩ := List.mem_iff_getElem?.1 hy
        obtain ⟨hjl, e⟩ := List.getElem?_eq_some_iff.1 hj
        simp only [List.length_take] at hjl
        rw [List.getElem?_take_of_lt (by omega)] at hj
        exact hlt j y (by omega) hj
      refine List.pairwise_append.2 ⟨hS.sublist (List.take_sublist _ _), List.pairwise_cons.2 ⟨hd, hS.sublist (List.drop_sublist _ _)⟩, fun x hx y hy => ?_⟩
      have := ht x hx
      rcases List.mem_cons.1 hy with rfl | hy
      · exact this
      · have := hd y hy; omega
  have main : ∀ (m i n : Nat), i + m = zs.length → m < n → (∀ (j : Nat) y, j < i → zs[j]? = some y → y < v) → ∃ r ws, F147.L2 k (C k) n (I1 zs) v (i : Int) = some r ∧ resL 1 1 false 1 r 0 0 = some (I1 ws) ∧ (∀ z, z ∈ ws ↔ z ∈ zs ∨ z = v) ∧ ws.length ≤ zs.length + 1 ∧ SS ws := by
    intro m
    induction m with
    | zero =>
      intro i n hm hn hlt
      obtain ⟨n, rfl⟩ : ∃ j, n = j + 1 := ⟨n - 1, by omega⟩
      obtain ⟨r, ws, h1, h2⟩ := ins i (by omega) hlt (fun y hy => by have := (List.getElem?_eq_some_iff.1 hy).1; omega)
      refine ⟨r, ws, ?_, h2⟩
      rw [F147.L2.succ]
      rw [ite'_f (b := decide ((i : Int) < ((I1 zs).length : Int))) (by rw [I1_len]; exact lt_f (by omega))]
      rw [ite'_f (b := decide ((i : Int) < ((I1 zs).length : Int))) (by rw [I1_len]; exact lt_f (by omega))]
      exact h1
    | succ m ih =>
      intro i n hm hn hlt0
      obtain ⟨n, rfl⟩ : ∃ j, n = j + 1 := ⟨n - 1, by omega⟩
      have hi : i < zs.length := by omega
      have hx := List.getElem?_eq_getElem hi
      rw [F147.L2.succ]
      rw [ite'_t (b := decide ((i : Int) < ((I1 zs).length : Int))) (by rw [I1_len]; exact lt_t hi)]
      rw [ite'_t (b := inR (i : Int) (I1 zs).length) (by rw [I1_len]; exact inR_t hi)]
      rw [show cellI .i64 (I1 zs) (i : Int).toNat 0 = some zs[i] by rw [Int.toNat_natCast, cellI_at (I1_get' hx)]; rfl]
      simp only [bindI_s]
      by_cases hlt : zs[i] < v
      · rw [ite'_t (by simpa using hlt), next_i hi (m := zs.length) (by omega)]
        refine ih (i + 1) n (by omega) (by omega) (fun j y hj hy => ?_)
        by_cases hji : j = i
        · subst hji; rw [hx] at hy; cases hy; exact hlt
        · exact hlt0 j y (by omega) hy
      · rw [ite'_f (b := decide (zs[i] < v)) (by simpa using hlt)]
        rw [ite'_t (b := decide ((i : Int) < ((I1 zs).length : Int))) (by rw [I1_len]; exact lt_t hi)]
        rw [ite'_t (b := inR (i : Int) (I1 zs).length) (by rw [I1_len]; exact inR_t hi)]
        by_cases heq : zs[i] = v
        · rw [ite'_t (b := zs[i] == v) (by simpa using heq)]
          refine ⟨_, zs, rfl, resL_d _ _, fun z => ⟨.inl, ?_⟩, by omega, hS⟩
          rintro (h | h)
          · exact h
          · rw [h, ← heq]; exact List.getElem_mem hi
        · rw [ite'_f (b := zs[i] == v) (by simpa using heq)]
          obtain ⟨r, ws, h1, h2⟩ := ins i (by omega) hlt0 (fun y hy => by rw [hx] at hy; cases hy; omega)
          exact ⟨r, ws, h1, h2⟩
  have := main zs.length 0 k (by omega) (by omega) (fun j y hj => by omega)
  exact this
/-- spec.NullsOfFact -/
theorem c145 (r : Int) (zs : List Int) (hI : ∀ z ∈ zs, inI z) (hk : zs.length < k) (hz : zs.length ≤ 1048576) : C (k + 3) 145 [.agg [.d (.int .i64 r), .d (.list 1 (I1 zs))]] = some [(false, [.d (.list 1 (I1 (nulls zs)))])] := by
  rw [F145.run]
  have hmax : (1048576 : Nat) ≤ maxLen := by decide
  have main : ∀ (m i n : Nat) (acc : List Int), i + m = zs.length → m < n → SS acc → acc.length ≤ i → (∀ z, z ∈ acc ↔ ∃ v ∈ zs.take i, isN v = true ∧ z = -1 - v) → F145.L3 (k + 2) (C (k + 2)) n (I1 acc) (i : Int) r (I1 zs) = some [(false, [.d (.list 1 (I1 (nulls zs)))])] := by
    intro m
    induction m with
    | zero =>
      intro i n acc hm hn hS hl hmem
      obtain ⟨n, rfl⟩ : ∃ j, n = j + 1 := ⟨n - 1, by omega⟩
      obtain rfl : i = zs.length := by omega
      rw [List.take_length] at hmem
      rw [F145.L3.succ, I1_len, ite'_f (lt_f (by omega)), ss_eq hS (nulls_ss zs) (fun z => by rw [hmem z, mem_nulls])]
    | succ m ih =>
      intro i n acc hm hn hS hl hmem
      obtain ⟨n, rfl⟩ : ∃ j, n = j + 1 := ⟨n - 1, by omega⟩
      have hi : i < zs.length := by omega
      have hx := List.getElem?_eq_getElem hi
      have htk : ∀ z, z ∈ zs.take (i + 1) ↔ z ∈ zs.take i ∨ z = zs[i] := by
        intro z
        rw [List.take_succ_eq_append_getElem hi]
        simp only [List.mem_append, List.mem_singleton]
      rw [F145.L3.succ, I1_len, ite'_t (lt_t hi), ite'_t (inR_t hi)]
      simp only [Int.toNat_natCast, cellI_at (I1_get' hx), List.getElem?_cons_zero, Option.bind_some, asI_s, bindI_s]
      rw [c80 (hI _ (List.getElem_mem hi)), nnB, next_i hi (m := zs.length) (by omega)]
      cases h : isN zs[i] with
      | true =>
        obtain ⟨r', ws, e1, e2, e3, e4, e5⟩ := c147s (k := k + 1) acc (-1 - zs[i]) hS (by omega) (by omega)
        rw [ite'_t rfl]
        simp only [if_true]
        rw [e1]
        simp only [bindR_s]
        rw [e2, bindL_s]
        refine ih (i + 1) n ws (by omega) (by omega) e5 (by omega) (fun z => ?_)
        rw [e3 z, hmem z]
        constructor
        · rintro (⟨v, h1, h2⟩ | h1)
          · exact ⟨v, (htk v).2 (.inl h1), h2⟩
          · exact ⟨zs[i], (htk _).2 (.inr rfl), h, h1⟩
        · rintro ⟨v, h1, h2⟩
          rcases (htk v).1 h1 with h1 | rfl
          · exact .inl ⟨v, h1, h2⟩
          · exact .inr h2.2
      | false =>
        rw [ite'_f rfl]
        refine ih (i + 1) n acc (by omega) (by omega) hS (by omega) (fun z => ?_)
        rw [hmem z]
        constructor
        · rintro ⟨v, h1, h2⟩
          exact ⟨v, (htk v).2 (.inl h1), h2⟩
        · rintro ⟨v, h1, h2⟩
          rcases (htk v).1 h1 with h1 | rfl
          · exact ⟨v, h1, h2⟩
          · rw [h] at h2; cases h2.1
  exact main zs.length 0 (k + 2) [] (by omega) (by omega) (by simp [SS]) (by simp) (fun z => by simp)
/-- impl.NullsOfFact -/
theorem c174 (r : Int) (zs : List Int) (hI : ∀ z ∈ zs, inI z) (hk : zs.length < k) (hz : zs.length ≤ 1048576) : C (k + 4) 174 [.agg [.d (.int .i64 r), .d (.list 1 (I1 zs))]] = some [(false, [.row 3 1 (I1 (nulls zs))])] := by
  rw [F174.run, c212 zs hI hk hz]
  rfl
end Go.Proofs.YthicohakeljdcaaGreat.Q

/-! UIb -/
namespace Go.Proofs.YthicohakeljdcaaGreat.Q
open Go Ovi
variable {k : Nat}
/-! ### the order of facts -/
def cmpI : List Int → List Int → Int
  | [], [] => 0
  | [], _ :: _ => -1
  | _ :: _, [] => 1
  | x :: xs, y :: ys => if x < y then -1 else if x > y then 1 else cmpI xs ys
def io (n : Int) : Option Res := some [(false, [.d (.int .i64 n)])]
theorem iB' (n : Int) (f : Int → Option Res) : (bindR (io n) fun r => bindI (resI .i64 1 false 1 r 0 0) f) = f n := rfl
/-- cmp.Compare -/
def cmp1 (x y : Int) : Int := if x < y then -1 else if x > y then 1 else 0
theorem c225 (x y : Int) : C (k + 2) 225 [.d (.int .i64 x), .d (.int .i64 y)] = io (cmp1 x y) := by
  rw [F225.run, F266.run, F266.run]
  simp only [bne_self_eq_false, bindR_s, resB_s, bindB_s]
  rw [ite'_f rfl, ite'_f rfl]
  unfold cmp1
  by_cases h : x < y
  · rw [ite'_t (by simpa using h), if_pos h]; rfl
  · rw [ite'_f (by simpa using h), if_neg h]
    by_cases h' : x > y
    · rw [ite'_t (by simpa using h'), if_pos h']; rfl
    · rw [ite'_f (by simpa using h'), if_neg h']; rfl
theorem cmpI_drop {a b : List Int} {i : Nat} (ha : i < a.length) (hb : i < b.length) : cmpI (a.drop i) (b.drop i) = if a[i] < b[i] then -1 else if a[i] > b[i] then 1 else cmpI (a.drop (i + 1)) (b.drop (i + 1)) := by
  rw [List.drop_eq_getElem_cons ha, List.drop_eq_getElem_cons hb]
  rfl
/-- slices.Compare on integers -/
theorem c226 (a b : List Int) (hk : a.length < k) (ha : a.length ≤ maxLen) : C (k + 3) 226 [.d (.list 1 (I1 a)), .d (.list 1 (I1 b))] = io (cmpI a b) := by
  rw [F226.run, I1_len]
  have main : ∀ (m i n : Nat), i + m = a.length → m < n → i ≤ b.length → F226.L2 (k + 2) (C (k + 2)) n (I1 a) (I1 b) (I1 a) (a.length : Int) (i : Int) = io (cmpI (a.drop i) (b.drop i)) := by
    intro m
    induction m with
    | zero =>
      intro i n hm hn hb
      obtain ⟨n, rfl⟩ : ∃ j, n = j + 1 := ⟨n - 1, by omega⟩
      obtain rfl : i = a.length := by omega
      rw [F226.L2.succ, ite'_f (lt_f (by omega)), I1_len, I1_len, List.drop_eq_nil_of_le (Nat.le_refl _)]
      by_cases h : a.length < b.length
      · rw [ite'_t (lt_t h), List.drop_eq_getElem_cons h]; rfl
      · rw [ite'_f (lt_f h), List.drop_eq_nil_of_le (by omega)]; rfl
    | succ m ih =>
      intro i n hm hn hb
      obtain ⟨n, rfl⟩ : ∃ j, n = j + 1 := ⟨n - 1, by omega⟩
      have hi : i < a.length := by omega
      have hx := List.getElem?_eq_getElem hi
      rw [F226.L2.succ, ite'_t (lt_t hi), I1_len, ite'_t (inR_t hi)]
      simp only [Int.toNat_natCast, cellI_at (I1_get' hx), List.getElem?_cons_zero, Option.bind_some, asI_s, bindI_s]
      rw [I1_len]
      by_cases h : i < b.length
      · have hy := List.getElem?_eq_getElem h
        rw [ite'_f (b := decide ((i : Int) ≥ (b.length : Int))) (by simp; omega), ite'_t (inR_t h)]
        simp only [cellI_at (I1_get' hy), List.getElem?_cons_zero, Option.bind_some, asI_s, bindI_s]
        rw [c225, iB', cmpI_drop hi h, next_i hi ha, ih (i + 1) n (by omega) (by omega) (by omega)]
        unfold cmp1
        by_cases h1 : a[i] < b[i]
        · rw [if_pos h1, if_pos h1]; rfl
        · rw [if_neg h1, if_neg h1]
          by_cases h2 : a[i] > b[i]
          · rw [if_pos h2, if_pos h2]; rfl
          · rw [if_neg h2, if_neg h2]; rfl
      · rw [ite'_t (b := decide ((i : Int) ≥ (b.length : Int))) (by simp; omega), List.drop_eq_getElem_cons hi, show b.drop i = [] from List.drop_eq_nil_of_le (by omega)]
        rfl
  exact main a.length 0 (k + 2) (by omega) (by omega) (by omega)
/-- spec.l4Ints -/
theorem c179 (a b : List Int) (hk : a.length < k) (ha : a.length ≤ maxLen) : C (k + 1) 179 [.d (.list 1 (I1 a)), .d (.list 1 (I1 b))] = io (cmpI a b) := by
  rw [F179.run]
  have fin : ∀ (i n : Nat), i ≤ a.length → i ≤ b.length → (¬ i < a.length ∨ ¬ i < b.length) → F179.L2 k (C k) (n + 1) (I1 a) (I1 b) (i : Int) = io (cmpI (a.drop i) (b.drop i)) := by
    intro i n h1 h2 h3
    have e : F179.L2 k (C k) (n + 1) (I1 a) (I1 b) (i : Int) = ite' (decide ((a.length : Int) < (b.length : Int))) (io (-1)) (ite' (decide ((a.length : Int) > (b.length : Int))) (io 1) (io 0)) := by
      rw [F179.L2.succ, I1_len, I1_len]
      by_cases hi : i < a.length
      · rw [ite'_t (lt_t hi), ite'_f (lt_f (by omega))]; rfl
      · rw [ite'_f (lt_f hi)]; rfl
    rw [e]
    rcases Nat.lt_trichotomy a.length b.length with h | h | h
    · obtain rfl : i = a.length := by omega
      rw [ite'_t (by simp; omega), List.drop_eq_nil_of_le (Nat.le_refl _), List.drop_eq_getElem_cons h]
      rfl
    · rw [ite'_f (by simp; omega), ite'_f (by simp; omega), List.drop_eq_nil_of_le (by omega), List.drop_eq_nil_of_le (by omega)]
      rfl
    · obtain rfl : i = b.length := by omega
      rw [ite'_f (by simp; omega), ite'_t (by simp; omega), List.drop_eq_nil_of_le (Nat.le_refl _), List.drop_eq_getElem_cons h]
      rfl
  have main : ∀ (m i n : Nat), i + m = a.length → m < n → i ≤ b.length → F179.L2 k (C k) n (I1 a) (I1 b) (i : Int) = io (cmpI (a.drop i) (b.drop i)) := by
    intro m
    induction m with
    | zero =>
      intro i n hm hn hb
      obtain ⟨n, rfl⟩ : ∃ j, n = j + 1 := ⟨n - 1, by omega⟩
      exact fin i n (by omega) hb (by omega)
    | succ m ih =>
      intro i n hm hn hb
      obtain ⟨n, rfl⟩ : ∃ j, n = j + 1 := ⟨n - 1, by omega⟩
      by_cases h : i < b.length
      · have hi : i < a.length := by omega
        have hx := List.getElem?_eq_getElem hi
        have hy := List.getElem?_eq_getElem h
        rw [F179.L2.succ, I1_len, I1_len, ite'_t (lt_t hi), ite'_t (lt_t h), ite'_t (inR_t hi)]
        simp only [Int.toNat_natCast, cellI_at (I1_get' hx), cellI_at (I1_get' hy), List.getElem?_cons_zero, Option.bind_some, asI_s, bindI_s]
        rw [ite'_t (inR_t h), ite'_t (inR_t hi), ite'_t (inR_t h), next_i hi ha, ih (i + 1) n (by omega) (by omega) (by omega), cmpI_drop hi h]
        by_cases h1 : a[i] < b[i]
        · rw [ite'_t (by simpa using h1), if_pos h1]; rfl
        · rw [ite'_f (by simpa using h1), if_neg h1]
          by_cases h2 : a[i] > b[i]
          · rw [ite'_t (by simpa using h2), if_pos h2]; rfl
          · rw [ite'_f (by simpa using h2), if_neg h2]
      · exact fin i n (by omega) hb (by omega)
  exact main a.length 0 k (by omega) hk (by omega)
def cmpF (x y : Atom) : Int := if x.1 < y.1 then -1 else if x.1 > y.1 then 1 else cmpI x.2 y.2
/-- spec.CompareFacts -/
theorem c144 (x y : Atom) (hk : x.2.length < k) (ha : x.2.length ≤ maxLen) : C (k + 2) 144 [.agg [.d (.int .i64 x.1), .d (.list 1 (I1 x.2))], .agg [.d (.int .i64 y.1), .d (.list 1 (I1 y.2))]] = io (cmpF x y) := by
  rw [F144.run, c179 x.2 y.2 hk ha, iB']
  unfold cmpF
  by_cases h1 : x.1 < y.1
  · rw [ite'_t (by simpa using h1), if_pos h1]; rfl
  · rw [ite'_f (by simpa using h1), if_neg h1]
    by_cases h2 : x.1 > y.1
    · rw [ite'_t (by simpa using h2), if_pos h2]; rfl
    · rw [ite'_f (by simpa using h2), if_neg h2]; rfl
/-- cmp.Or of two -/
theorem c224 (x y : Int) : C (k + 4) 224 [.d (.list 1 [[.int .i64 x], [.int .i64 y]])] = io (if x = 0 then y else x) := by
  rw [F224.run]
  have s0 : ∀ n, F224.L3 (k + 3) (C (k + 3)) (n + 1) 0 [[.int .i64 x], [.int .i64 y]] 2 0 = ite' (x != 0) (io x) (F224.L3 (k + 3) (C (k + 3)) n 0 [[.int .i64 x], [.int .i64 y]] 2 1) := fun n => by rw [F224.L3.succ]; rfl
  have s1 : ∀ n, F224.L3 (k + 3) (C (k + 3)) (n + 1) 0 [[.int .i64 x], [.int .i64 y]] 2 1 = ite' (y != 0) (io y) (F224.L3 (k + 3) (C (k + 3)) n 0 [[.int .i64 x], [.int .i64 y]] 2 2) := fun n => by rw [F224.L3.succ]; rfl
  have s2 : ∀ n, F224.L3 (k + 3) (C (k + 3)) (n + 1) 0 [[.int .i64 x], [.int .i64 y]] 2 2 = io 0 := fun n => by rw [F224.L3.succ]; rfl
  show F224.L3 (k + 3) (C (k + 3)) (k + 2 + 1) 0 [[.int .i64 x], [.int .i64 y]] 2 0 = _
  rw [s0, s1, s2]
  by_cases h : x = 0
  · rw [if_pos h, ite'_f (by simpa using h)]
    by_cases h' : y = 0
    · rw [ite'_f (by simpa using h'), h']
    · rw [ite'_t (by simpa using h')]
  · rw [if_neg h, ite'_t (by simpa using h)]
/-- impl.CompareFacts -/
theorem c169 (x y : Atom) (hk : x.2.length < k) (ha : x.2.length ≤ maxLen) : C (k + 5) 169 [.agg [.d (.int .i64 x.1), .d (.list 1 (I1 x.2))], .agg [.d (.int .i64 y.1), .d (.list 1 (I1 y.2))]] = io (cmpF x y) := by
  rw [F169.run, c225, iB', c226 (k := k + 1) x.2 y.2 (by omega) ha, iB', c224, iB']
  unfold cmpF cmp1
  by_cases h1 : x.1 < y.1
  · rw [if_pos h1, if_pos h1]; rfl
  · rw [if_neg h1, if_neg h1]
    by_cases h2 : x.1 > y.1
    · rw [if_pos h2, if_pos h2]; rfl
    · rw [if_neg h2, if_neg h2]; rfl
/-! ### valid facts -/
def FactB (a : Ovi.Rows) (x : Atom) (b : Bool) : Prop := (b = true → (0 ≤ x.1 ∧ x.1 < (a.length : Int)) ∧ (x.2.length : Int) = ar a x.1) ∧ ∀ k, a.length < k → x.2.length < k → C (k + 6) 173 [.d (.list 3 a), .agg [.d (.int .i64 x.1), .d (.list 1 (I1 x.2))]] = bo b ∧ C (k + 6) 143 [.d (.list 3 a), .agg [.d (.int .i64 x.1), .d (.list 1 (I1 x.2))]] = bo b
theorem factB {a : Ovi.Rows} (ha : Fit Rl (.list 3 a)) (x : Atom) (hI : ∀ z ∈ x.2, inI z) (hx2 : x.2.length ≤ maxLen) : ∃ b, FactB a x b := by
  have hlen := ha.len
  unfold maxLen at hlen
  obtain ⟨b, hb⟩ := rels ha
  have e : ∀ k, a.length < k → C (k + 5) 172 [.d (.list 3 a)] = bo b ∧ C (k + 5) 146 [.d (.list 3 a)] = bo b := fun k hk => hb (k + 2) (by omega)
  cases b with
  | false =>
    refine ⟨false, fun h => (by cases h), fun k hk hx => ?_⟩
    rw [F173.run, F143.run, (e k hk).1, (e k hk).2, bB, bB]
    exact ⟨rfl, rfl⟩
  | true =>
    by_cases hr : 0 ≤ x.1 ∧ x.1 ≤ (a.length : Int) - 1
    · obtain ⟨i, hi⟩ : ∃ i : Nat, x.1 = i := ⟨x.1.toNat, by omega⟩
      have hia : i < a.length := by omega
      obtain ⟨row, hrow, hfr, _⟩ := ha.row hia
      obtain ⟨d0, r0, rfl, f0, h1⟩ := Fits.cons hfr
      obtain ⟨d1, r1, rfl, f1, h1⟩ := Fits.cons h1
      obtain ⟨n, rfl, _⟩ := f1.int
      have hcn : cellI .i64 a ((i : Int)).toNat 1 = some n := by rw [Int.toNat_natCast, cellI_at hrow]; simp [asI_s]
      by_cases hn : ((I1 x.2).length : Int) = n
      · refine ⟨!(x.2.any fun t => !okV t), fun _ => ⟨by omega, by unfold ar; rw [hi, hcn]; rw [I1_len] at hn; exact hn⟩, fun k hk hx => ?_⟩
        rw [F173.run, F143.run, (e k hk).1, (e k hk).2, bB, bB, ite'_nt, ite'_nt, c73, c68, bB, bB, wrap_id (by omega) (by omega), decide_eq_true hr, ite'_nt, ite'_nt, hi, ite'_t (inR_t hia), ite'_t (inR_t hia), hcn]
        simp only [bindI_s]
        rw [ite'_f (by simpa using hn), ite'_f (b := ((I1 x.2).length : Int) != n) (by simpa using hn)]
        have e69 := c163 (k := k + 3) x.2 228 [] (fun t => !okV t) (by omega) hx2 (fun z _ => by
          rw [List.map_nil, F228.run, c165, bB]; rfl)
        rw [e69, bB]
        refine ⟨rfl, ?_⟩
        have := loop_any (xs := x.2) (L := fun m j => F143.L4 (k + 5) (C (k + 5)) m j (i : Int) (I1 x.2)) (stop := fun t => !okV t) (hit := bo false) (fin := bo true)
          (fun m j t ht => by
            have hj := (List.getElem?_eq_some_iff.1 ht).1
            rw [F143.L4.succ, I1_len, ite'_t (lt_t hj), ite'_t (inR_t hj)]
            simp only [Int.toNat_natCast, cellI_at (I1_get' ht), List.getElem?_cons_zero, Option.bind_some, asI_s, bindI_s]
            rw [c157 (hI t (List.mem_of_getElem? ht)), bB, next_i hj hx2]; rfl)
          (fun m => by rw [F143.L4.succ, I1_len, ite'_f (lt_f (by omega))]; rfl) (k + 5) (by omega)
        rw [show F143.L4 (k + 5) (C (k + 5)) (k + 5) 0 (i : Int) (I1 x.2) = _ from this]
        cases x.2.any (fun t => !okV t) <;> rfl
      · refine ⟨false, fun h => (by cases h), fun k hk hx => ?_⟩
        rw [F173.run, F143.run, (e k hk).1, (e k hk).2, bB, bB, ite'_nt, ite'_nt, c73, c68, bB, bB, wrap_id (by omega) (by omega), decide_eq_true hr, ite'_nt, ite'_nt, hi, ite'_t (inR_t hia), ite'_t (inR_t hia), hcn]
        simp only [bindI_s]
        rw [ite'_t (by simpa using hn), ite'_t (b := ((I1 x.2).length : Int) != n) (by simpa using hn)]
        exact ⟨rfl, rfl⟩
    · refine ⟨false, fun h => (by cases h), fun k hk hx => ?_⟩
      rw [F173.run, F143.run, (e k hk).1, (e k hk).2, bB, bB, ite'_nt, ite'_nt, c73, c68, bB, bB, wrap_id (by omega) (by omega), decide_eq_false hr]
      exact ⟨rfl, rfl⟩
def src (a : Ovi.Rows) (x : Atom) : Bool := match a[x.1.toNat]? with
  | some [_, _, .bool b] => b
  | _ => false
theorem src_cell {a : Ovi.Rows} (ha : Fit Rl (.list 3 a)) {x : Atom} (h : 0 ≤ x.1 ∧ x.1 < (a.length : Int)) : inR x.1 a.length = true ∧ cellB a x.1.toNat 2 = some (src a x) := by
  obtain ⟨i, hi⟩ : ∃ i : Nat, x.1 = i := ⟨x.1.toNat, by omega⟩
  have hia : i < a.length := by omega
  obtain ⟨row, hrow, hfr, _⟩ := ha.row hia
  obtain ⟨d0, r0, rfl, f0, h1⟩ := Fits.cons hfr
  obtain ⟨d1, r1, rfl, f1, h1⟩ := Fits.cons h1
  obtain ⟨d2, r2, rfl, f2, h1⟩ := Fits.cons h1
  obtain rfl := Fits.nil h1
  obtain ⟨b, rfl⟩ := f2.bool
  rw [hi]
  refine ⟨inR_t hia, ?_⟩
  rw [Int.toNat_natCast, cellB_at hrow]
  unfold src
  rw [hi, Int.toNat_natCast, hrow]
  rfl
/-- both IsValidInstance answer alike -/
theorem instB {a : Ovi.Rows} (ha : Fit Rl (.list 3 a)) (xs : List Atom) (hI : ∀ x ∈ xs, ∀ z ∈ x.2, inI z) (hs : terms xs + xs.length ≤ 1048576) (hal : a.length ≤ 1048576) : ∃ b, (b = true → xs.length ≤ 30 ∧ ∀ x ∈ xs, (0 ≤ x.1 ∧ x.1 < (a.length : Int)) ∧ (x.2.length : Int) = ar a x.1) ∧ ∀ k, 2000000 ≤ k → C (k + 8) 100 [.agg [.d (.list 3 a), .d (.list 2 (A1 xs))]] = bo b ∧ C (k + 8) 67 [.agg [.d (.list 3 a), .d (.list 2 (A1 xs))]] = bo b := by
  have hmax : (1048576 : Nat) ≤ maxLen := by decide
  have hl : ∀ x ∈ xs, x.2.length ≤ 1048576 := fun x hx => by have := len_terms hx; omega
  obtain ⟨vf, hvf⟩ : ∃ vf : Atom → Bool, ∀ x ∈ xs, FactB a x (vf x) := by
    have : ∀ x : Atom, ∃ b, x ∈ xs → FactB a x b := by
      intro x
      by_cases h : x ∈ xs
      · obtain ⟨b, hb⟩ := factB ha x (hI x h) (by have := hl x h; omega)
        exact ⟨b, fun _ => hb⟩
      · exact ⟨false, fun h' => absurd h' h⟩
    obtain ⟨vf, hv⟩ := Classical.axiomOfChoice this
    exact ⟨vf, fun x hx => hv x hx⟩
  obtain ⟨rb, hrb⟩ := rels ha
  let bad : Nat → Atom → Bool := fun i x => !vf x || ((decide (i > 0) && decide (cmpF (xs.getD (i - 1) x) x ≥ 0)) || (src a x && decide ((nulls x.2).length > 0)))
  have key : ∃ st : Bool, (st = false → ∀ x ∈ xs, vf x = true) ∧ ∀ k, 2000000 ≤ k → F100.L4 (k + 7) (C (k + 7)) (k + 7) (A1 xs) (xs.length : Int) 0 a (A1 xs) = bo (!st) ∧ F67.L2 (k + 7) (C (k + 7)) (k + 7) 0 a (A1 xs) = cond st (bo false) (bo (rb && decide ((xs.length : Int) ≤ 30))) := by
    have s78 : ∀ k, 2000000 ≤ k → ∀ (n i : Nat) x, xs[i]? = some x → F100.L4 (k + 7) (C (k + 7)) (n + 1) (A1 xs) (xs.length : Int) (i : Int) a (A1 xs) = cond (bad i x) (bo false) (F100.L4 (k + 7) (C (k + 7)) n (A1 xs) (xs.length : Int) ((i + 1 : Nat) : Int) a (A1 xs)) ∧
        F67.L2 (k + 7) (C (k + 7)) (n + 1) (i : Int) a (A1 xs) = cond (bad i x) (bo false) (F67.L2 (k + 7) (C (k + 7)) n ((i + 1 : Nat) : Int) a (A1 xs)) := by
      intro k hk n i x hx
      have hi := (List.getElem?_eq_some_iff.1 hx).1
      have hxm := List.mem_of_getElem? hx
      have hxl := hl x hxm
      obtain ⟨hv1, hv2⟩ := hvf x hxm
      obtain ⟨e1, e2⟩ := hv2 (k + 1) (by omega) (by omega)
      have hc0 : cellI .i64 (A1 xs) (i : Int).toNat 0 = some x.1 := by rw [Int.toNat_natCast, cellI_at (A1_get hx)]; simp [asI_s]
      have hc1 : cellL 1 (A1 xs) (i : Int).toNat 1 = some (I1 x.2) := by rw [Int.toNat_natCast, cellL_at (A1_get hx)]; simp [asL_s]
      rw [F100.L4.succ, F67.L2.succ, A1_len, ite'_t (lt_t hi), ite'_t (inR_t hi), ite'_t (lt_t hi), ite'_t (inR_t hi), hc0, hc1]
      simp only [bindI_s, bindL_s]
      rw [e1, e2, bB, bB, next_i hi (m := xs.length) (by omega)]
      cases hvx : vf x with
      | false =>
        have hb : bad i x = true := by simp [bad, hvx]
        rw [hb]
        exact ⟨rfl, rfl⟩
      | true =>
        obtain ⟨g1, g2⟩ := src_cell ha (hv1 hvx).1
        have tail : ∀ (X Y : Option Res) (nu : Bool), nu = decide ((nulls x.2).length > 0) → True := fun _ _ _ _ => trivial
        have n126 := c174 (k := k + 3) x.1 x.2 (hI x hxm) (by omega) hxl
        have n75 := c145 (k := k + 4) x.1 x.2 (hI x hxm) (by omega) hxl
        rw [ite'_nt, ite'_nt, g1, g2, n126, n75]
        simp only [bindB_s, bindR_s, resO_s, resL_d, bindL_s, I1_len]
        have hnu : decide (((nulls x.2).length : Int) > 0) = decide ((nulls x.2).length > 0) := by
          rw [Bool.eq_iff_iff]; simp only [decide_eq_true_eq]; omega
        rw [hnu]
        by_cases h0 : i = 0
        · subst h0
          have hb : bad 0 x = (src a x && decide ((nulls x.2).length > 0)) := by simp [bad, hvx]
          rw [hb]
          cases src a x <;> cases decide ((nulls x.2).length > 0) <;> exact ⟨rfl, rfl⟩
        · have hw : IntKind.i64.wrap ((i : Int) - 1) = ((i - 1 : Nat) : Int) := by rw [wrap_id (by omega) (by omega)]; omega
          have hy : xs[i - 1]? = some xs[i - 1] := List.getElem?_eq_getElem (by omega)
          have hyl := hl _ (List.mem_of_getElem? hy)
          have hd0 : cellI .i64 (A1 xs) ((i - 1 : Nat) : Int).toNat 0 = some (xs[i - 1]).1 := by rw [Int.toNat_natCast, cellI_at (A1_get hy)]; simp [asI_s]
          have hd1 : cellL 1 (A1 xs) ((i - 1 : Nat) : Int).toNat 1 = some (I1 (xs[i - 1]).2) := by rw [Int.toNat_natCast, cellL_at (A1_get hy)]; simp [asL_s]
          have hgt : decide ((i : Int) > 0) = true := by simp; omega
          rw [hgt, hw, hd0, hd1]
          simp only [bindI_s, bindL_s]
          rw [c169 (k := k + 2) xs[i - 1] x (by omega) (by omega), c144 (k := k + 5) xs[i - 1] x (by omega) (by omega), iB', iB', inR_t (i := i - 1) (by omega)]
          have hb : bad i x = (decide (cmpF xs[i - 1] x ≥ 0) || (src a x && decide ((nulls x.2).length > 0))) := by
            simp [bad, hvx, List.getD_eq_getElem?_getD, hy, show i > 0 by omega]
          rw [hb]
          cases decide (cmpF xs[i - 1] x ≥ 0) <;> cases src a x <;> cases decide ((nulls x.2).length > 0) <;> exact ⟨rfl, rfl⟩
    have d78 : ∀ k n, F100.L4 (k + 7) (C (k + 7)) (n + 1) (A1 xs) (xs.length : Int) (xs.length : Int) a (A1 xs) = bo true := fun k n => by rw [F100.L4.succ, ite'_f (lt_f (by omega))]; rfl
    have d74 : ∀ k, 2000000 ≤ k → ∀ n, F67.L2 (k + 7) (C (k + 7)) (n + 1) (xs.length : Int) a (A1 xs) = bo (rb && decide ((xs.length : Int) ≤ 30)) := fun k hk n => by
      rw [F67.L2.succ, A1_len, ite'_f (lt_f (by omega)), (hrb (k + 4) (by omega)).2, bB]
      cases rb <;> rfl
    by_cases hall : ∀ (i : Nat) x, xs[i]? = some x → bad i x = false
    · refine ⟨false, fun _ x hx => ?_, fun k hk => ?_⟩
      · obtain ⟨i, hi⟩ := List.mem_iff_getElem?.1 hx
        have := hall i x hi
        simp only [bad, Bool.or_eq_false_iff, Bool.not_eq_false'] at this
        exact this.1
      · constructor
        · rcases loop_find (L := fun n i => F100.L4 (k + 7) (C (k + 7)) n (A1 xs) (xs.length : Int) i a (A1 xs)) (stop := bad) (hit := fun _ => bo false) (fin := bo true) (fun n i x hx => (s78 k hk n i x hx).1) (d78 k) (k + 7) (by omega) with ⟨i, x, hx, hst, _⟩ | ⟨_, h⟩
          · rw [hall i x hx] at hst; cases hst
          · exact h
        · rcases loop_find (L := fun n i => F67.L2 (k + 7) (C (k + 7)) n i a (A1 xs)) (stop := bad) (hit := fun _ => bo false) (fun n i x hx => (s78 k hk n i x hx).2) (d74 k hk) (k + 7) (by omega) with ⟨i, x, hx, hst, _⟩ | ⟨_, h⟩
          · rw [hall i x hx] at hst; cases hst
          · exact h
    · refine ⟨true, ⟨fun h => (by cases h), fun k hk => ?_⟩⟩
      constructor
      · rcases loop_find (L := fun n i => F100.L4 (k + 7) (C (k + 7)) n (A1 xs) (xs.length : Int) i a (A1 xs)) (stop := bad) (hit := fun _ => bo false) (fin := bo true) (fun n i x hx => (s78 k hk n i x hx).1) (d78 k) (k + 7) (by omega) with ⟨i, x, hx, hst, h⟩ | ⟨h, _⟩
        · exact h
        · exact absurd h hall
      · rcases loop_find (L := fun n i => F67.L2 (k + 7) (C (k + 7)) n i a (A1 xs)) (stop := bad) (hit := fun _ => bo false) (fun n i x hx => (s78 k hk n i x hx).2) (d74 k hk) (k + 7) (by omega) with ⟨i, x, hx, hst, h⟩ | ⟨h, _⟩
        · exact h
        · exact absurd h hall
  obtain ⟨st, hst, hk2⟩ := key
  refine ⟨rb && (decide ((xs.length : Int) ≤ 30) && !st), fun h => ?_, fun k hk => ?_⟩
  · simp only [Bool.and_eq_true, decide_eq_true_eq, Bool.not_eq_true'] at h
    exact ⟨by omega, fun x hx => (hvf x hx).1 (hst h.2.2 x hx)⟩
  · obtain ⟨e1, e2⟩ := hk2 k hk
    constructor
    · rw [F100.run, (hrb (k + 4) (by omega)).1, bB, A1_len, e1]
      cases rb with
      | false => rfl
      | true =>
        rw [ite'_nt]
        by_cases h30 : (xs.length : Int) ≤ 30
        · rw [ite'_f (by simp; omega), decide_eq_true h30]; rfl
        · rw [ite'_t (by simp; omega), decide_eq_false h30]; rfl
    · rw [F67.run, e2]
      cases st <;> cases rb <;> cases decide ((xs.length : Int) ≤ 30) <;> rfl
/-! ### the nulls of an instance -/
def vals (xs : List Atom) : List Int := xs.flatMap fun x => x.2
theorem vals_len (xs : List Atom) : (vals xs).length = terms xs := by simp [vals, terms, List.length_flatMap]
theorem vals_I {xs : List Atom} (hI : ∀ x ∈ xs, ∀ z ∈ x.2, inI z) : ∀ z ∈ vals xs, inI z := by
  intro z hz
  obtain ⟨x, hx, h⟩ := List.mem_flatMap.1 hz
  exact hI x hx z h
end Go.Proofs.YthicohakeljdcaaGreat.Q

/-! ULa -/
namespace Go.Proofs.YthicohakeljdcaaGreat.Q
open Go Ovi
variable {k : Nat}
/-! ### matches -/
theorem I1_c {zs : List Int} {i : Nat} {z : Int} (h : zs[i]? = some z) : cellI .i64 (I1 zs) (i : Int).toNat 0 = some z := by rw [Int.toNat_natCast, cellI_at (I1_get' h)]; simp [asI_s]
theorem rowsSet_I1 {M : List Int} {i : Nat} (z : Int) (h : i < M.length) : rowsSet (I1 M) i 0 [.int .i64 z] = I1 (M.set i z) := by
  have : (I1 M).getD i [] = [.int .i64 M[i]] := by simp [I1, List.getD, h]
  unfold rowsSet
  rw [this]
  simp [I1, List.map_set]
theorem LL_get' {l : BL} {i : Nat} {zs : List Int} (h : l[i]? = some zs) : (LL l)[i]? = some [.list 1 (I1 zs)] := by simp [LL, h]
theorem LL_c {l : BL} {i : Nat} {zs : List Int} (h : l[i]? = some zs) : cellL 1 (LL l) (i : Int).toNat 0 = some (I1 zs) := by rw [Int.toNat_natCast, cellL_at (LL_get' h)]; simp [asL_s]
theorem LL_snoc (l : BL) (b : List Int) : LL l ++ [[D.list 1 (I1 b)]] = LL (l ++ [b]) := by simp [LL]
theorem LL_app (l l' : BL) : LL l ++ LL l' = LL (l ++ l') := by simp [LL]
theorem I1_snoc (l : List Int) (z : Int) : I1 l ++ [[D.int .i64 z]] = I1 (l ++ [z]) := by simp [I1]
theorem A1_c0 {xs : List Atom} {i : Nat} {x : Atom} (h : xs[i]? = some x) : cellI .i64 (A1 xs) (i : Int).toNat 0 = some x.1 := by rw [Int.toNat_natCast, cellI_at (A1_get h)]; simp [asI_s]
theorem A1_c1 {xs : List Atom} {i : Nat} {x : Atom} (h : xs[i]? = some x) : cellL 1 (A1 xs) (i : Int).toNat 1 = some (I1 x.2) := by rw [Int.toNat_natCast, cellL_at (A1_get h)]; simp [asL_s]
theorem fitS_nil (vs b : List Int) : fitS [] vs b = some b := by simp [fitS]
/-- terms as they have to be -/
def okT (ts : List Int) : Prop := ∀ t ∈ ts, -10 ≤ t ∧ t ≤ 4
def fitR : Option (List Int) → Option Res
  | some b => some [(false, [.row 3 1 (I1 b)]), (false, [.d (.bool true)])]
  | none => some [(false, [.nil]), (false, [.d (.bool false)])]
theorem fitR_s {b : List Int} {f : Ovi.Rows → Bool → Option Res} : (bindR (fitR (some b)) fun r => bindL (resO 3 1 2 false 1 r 0 0) fun l => bindB (resB 2 false 1 r 1 0) fun c => f l c) = f (I1 b) true := rfl
theorem l267 (ts vs : List Int) (r : Int) (hT : okT ts) (hl : vs.length = ts.length) (h5 : ts.length ≤ 1048576) (K : Nat) : ∀ (m i n : Nat) (b : List Int), i + m = ts.length → m < n → b.length = 5 →
    F267.L5 K (C K) n (I1 ts) (ts.length : Int) (i : Int) r (I1 vs) (I1 b) = fitR (fitS (ts.drop i) (vs.drop i) b) := by
  have hmax : (1048576 : Nat) ≤ maxLen := by decide
  intro m
  induction m with
  | zero =>
    intro i n b hm hn hb
    obtain ⟨n, rfl⟩ : ∃ j, n = j + 1 := ⟨n - 1, by omega⟩
    obtain rfl : i = ts.length := by omega
    rw [F267.L5.succ, ite'_f (lt_f (by omega)), List.drop_length, fitS_nil]
    rfl
  | succ m ih =>
    intro i n b hm hn hb
    obtain ⟨n, rfl⟩ : ∃ j, n = j + 1 := ⟨n - 1, by omega⟩
    have hi : i < ts.length := by omega
    have hiv : i < vs.length := by omega
    have hx := List.getElem?_eq_getElem hi
    have hy := List.getElem?_eq_getElem hiv
    obtain ⟨h1, h2⟩ := hT _ (List.getElem_mem hi)
    rw [F267.L5.succ, ite'_t (lt_t hi), I1_len, ite'_t (inR_t hi), I1_c hx, bindI_s, I1_len, ite'_t (inR_t hiv), I1_c hy, bindI_s, next_i hi (m := ts.length) (by omega), List.drop_eq_getElem_cons hi, List.drop_eq_getElem_cons hiv, fitS, wrap_id (by omega) (by omega)]
    by_cases hneg : ts[i] < 0
    · rw [ite'_t (by simpa using hneg), if_pos hneg]
      by_cases he : vs[i] = -1 - ts[i]
      · rw [ite'_f (by simpa using he), if_pos he]
        exact ih (i + 1) n b (by omega) (by omega) hb
      · rw [ite'_t (by simpa using he), if_neg he]; rfl
    · obtain ⟨q, hq⟩ : ∃ q : Nat, ts[i] = (q : Int) := ⟨ts[i].toNat, by omega⟩
      have hq5 : q < b.length := by omega
      have hbq : b[q]? = some (b.getD q 0) := by rw [List.getD_eq_getElem?_getD, List.getElem?_eq_getElem hq5]; rfl
      rw [ite'_f (by simpa using hneg), if_neg hneg, hq, I1_len, ite'_t (inR_t hq5), I1_c hbq, bindI_s, Int.toNat_natCast]
      by_cases h10 : b.getD q 0 = 10
      · rw [ite'_t (by simpa using h10), ite'_t (inR_t hq5), if_pos h10, rowsSet_I1 _ hq5]
        exact ih (i + 1) n _ (by omega) (by omega) (by simpa using hb)
      · rw [ite'_f (by simpa using h10), ite'_t (inR_t hq5), if_neg h10]
        rw [bindI_s]
        by_cases he : b.getD q 0 = vs[i]
        · rw [ite'_f (by simpa using he), if_pos he]
          exact ih (i + 1) n b (by omega) (by omega) hb
        · rw [ite'_t (by simpa using he), if_neg he]; rfl
/-- impl.bind -/
theorem c267 (x f : Atom) (b : List Int) (hT : okT x.2) (hl : x.1 = f.1 → f.2.length = x.2.length) (h5 : x.2.length ≤ 1048576) (hb : b.length = 5) (hk : x.2.length < k) :
    C (k + 2) 267 [.d (.list 1 (I1 b)), .agg [.d (.int .i64 x.1), .d (.list 1 (I1 x.2))], .agg [.d (.int .i64 f.1), .d (.list 1 (I1 f.2))]] = fitR (fitA x f b) := by
  rw [F267.run]
  unfold fitA
  by_cases h : x.1 = f.1
  · rw [ite'_f (by simpa using h), if_pos h]
    have e : C (k + 1) 192 [.d (.list 1 (I1 b))] = some [(false, [.row 3 1 (I1 b)])] := by
      have : C (k + 1) 192 [.d (.list 1 (I1 b))] = cloneP 3 [.d (.list 1 (I1 b))] := by kernel_rfl
      rw [this]
      simp only [cloneP, ints_I1]
      rw [show Nat.ble b.length 1099511627776 = true from Nat.ble_eq_true_of_le (by omega)]
      rfl
    rw [e]
    simp only [bindR_s, resO_s, bindL_s]
    have := l267 x.2 f.2 f.1 hT (hl h) h5 (k + 1) x.2.length 0 (k + 1) b (by omega) (by omega) hb
    rw [List.drop_zero, List.drop_zero] at this
    rw [I1_len]
    exact this
  · rw [ite'_t (by simpa using h), if_neg h]; rfl
theorem ten (k : Nat) : C (k + 1) 196 [] = io 10 := by rw [F196.run]; rfl
/-- what spec.l11Fit answers -/
def FitT (o : Option (List Int)) (r : Option Res) : Prop := ∃ y, r = some [(false, [.row 3 1 (I1 y)]), (false, [.d (.bool o.isSome)])] ∧ ∀ b, o = some b → y = b
theorem l229 (ts vs : List Int) (r r' : Int) (hT : okT ts) (hl : vs.length = ts.length) (h5 : ts.length ≤ 1048576) (K : Nat) : ∀ (m i n : Nat) (b : List Int), i + m = ts.length → m < n → b.length = 5 →
    FitT (fitS (ts.drop i) (vs.drop i) b) (F229.L5 (K + 1) (C (K + 1)) n (i : Int) r (I1 ts) r' (I1 vs) (I1 b)) := by
  have hmax : (1048576 : Nat) ≤ maxLen := by decide
  intro m
  induction m with
  | zero =>
    intro i n b hm hn hb
    obtain ⟨n, rfl⟩ : ∃ j, n = j + 1 := ⟨n - 1, by omega⟩
    obtain rfl : i = ts.length := by omega
    rw [F229.L5.succ, I1_len, ite'_f (lt_f (by omega)), List.drop_length, fitS_nil]
    exact ⟨b, rfl, fun c h => by cases h; rfl⟩
  | succ m ih =>
    intro i n b hm hn hb
    obtain ⟨n, rfl⟩ : ∃ j, n = j + 1 := ⟨n - 1, by omega⟩
    have hi : i < ts.length := by omega
    have hiv : i < vs.length := by omega
    have hx := List.getElem?_eq_getElem hi
    have hy := List.getElem?_eq_getElem hiv
    obtain ⟨h1, h2⟩ := hT _ (List.getElem_mem hi)
    rw [F229.L5.succ, I1_len, ite'_t (lt_t hi), ite'_t (inR_t hi), I1_c hx, bindI_s, next_i hi (m := ts.length) (by omega), List.drop_eq_getElem_cons hi, List.drop_eq_getElem_cons hiv, fitS, wrap_id (by omega) (by omega)]
    by_cases hneg : ts[i] < 0
    · rw [ite'_t (by simpa using hneg), if_pos hneg, I1_len, ite'_t (inR_t hiv), I1_c hy, bindI_s]
      by_cases he : vs[i] = -1 - ts[i]
      · rw [ite'_f (by simpa using he.symm), if_pos he]
        exact ih (i + 1) n b (by omega) (by omega) hb
      · rw [ite'_t (by simpa using fun h => he h.symm), if_neg he]
        exact ⟨b, rfl, fun c h => by cases h⟩
    · obtain ⟨q, hq⟩ : ∃ q : Nat, ts[i] = (q : Int) := ⟨ts[i].toNat, by omega⟩
      have hq5 : q < b.length := by omega
      have hbq : b[q]? = some (b.getD q 0) := by rw [List.getD_eq_getElem?_getD, List.getElem?_eq_getElem hq5]; rfl
      rw [ite'_f (by simpa using hneg), if_neg hneg, hq, I1_len, ite'_t (inR_t hq5), I1_c hbq, bindI_s, ten, iB', Int.toNat_natCast, I1_len]
      have hset : ∀ b', b' = b.set q vs[i] → FitT (fitS (ts.drop (i + 1)) (vs.drop (i + 1)) b') (ite' (inR (i : Int) vs.length) (bindI (cellI .i64 (I1 vs) (i : Int).toNat 0) fun n20 => ite' (inR (q : Int) b.length) (F229.L5 (K + 1) (C (K + 1)) n ((i + 1 : Nat) : Int) r (I1 ts) r' (I1 vs) (rowsSet (I1 b) q 0 [.int .i64 n20])) none) none) := by
        intro b' hb'
        rw [ite'_t (inR_t hiv), I1_c hy, bindI_s, ite'_t (inR_t hq5), rowsSet_I1 _ hq5, ← hb']
        exact ih (i + 1) n b' (by omega) (by omega) (by rw [hb']; simpa using hb)
      by_cases h10 : b.getD q 0 = 10
      · rw [ite'_f (by simpa using h10), if_pos h10]
        exact hset _ rfl
      · rw [ite'_t (by simpa using h10), if_neg h10, ite'_t (inR_t hq5), bindI_s, ite'_t (inR_t hiv), I1_c hy, bindI_s]
        by_cases he : b.getD q 0 = vs[i]
        · rw [ite'_f (by simpa using he), if_pos he]
          have := hset b (by
            rw [← he]
            apply List.ext_getElem?
            intro j
            rw [List.getElem?_set]
            by_cases hj : q = j
            · subst hj; rw [if_pos rfl, if_pos hq5, hbq]
            · rw [if_neg hj])
          rw [ite'_t (inR_t hiv), I1_c hy, bindI_s] at this
          rw [ite'_t (inR_t hiv), bindI_s]
          exact this
        · rw [ite'_t (by simpa using he), if_neg he]
          exact ⟨b, rfl, fun c h => by cases h⟩
/-- spec.l11Fit -/
theorem c229 (x f : Atom) (b : List Int) (hT : okT x.2) (hl : x.1 = f.1 → f.2.length = x.2.length) (h5 : x.2.length ≤ 1048576) (hb : b.length = 5) (hk : x.2.length < k) :
    FitT (fitA x f b) (C (k + 2) 229 [.agg [.d (.int .i64 x.1), .d (.list 1 (I1 x.2))], .agg [.d (.int .i64 f.1), .d (.list 1 (I1 f.2))], .d (.list 1 (I1 b))]) := by
  rw [F229.run, I1_len, ite'_t (fits_t (by omega))]
  unfold fitA
  by_cases h : x.1 = f.1
  · rw [ite'_f (by simpa using h), if_pos h, I1_len, I1_len, hl h, ite'_f (by simp)]
    have := l229 x.2 f.2 x.1 f.1 hT (hl h) h5 k x.2.length 0 (k + 1) b (by omega) (by omega) hb
    rw [List.drop_zero, List.drop_zero] at this
    exact this
  · rw [ite'_t (by simpa using h), if_neg h]
    exact ⟨b, rfl, fun c h => by cases h⟩
/-- facts and atoms as they are where matches are looked for -/
structure Mok (fs xs : List Atom) : Prop where
  f30 : fs.length ≤ 30
  x3 : xs.length ≤ 3
  ts : ∀ x ∈ xs, okT x.2 ∧ x.2.length ≤ 1048576
  len : ∀ x ∈ xs, ∀ f ∈ fs, x.1 = f.1 → f.2.length = x.2.length
theorem pow_le {a n : Nat} (ha : a ≤ 30) (hn : n ≤ 3) : a ^ n ≤ 27000 := by
  have h1 : a ^ n ≤ 30 ^ n := Nat.pow_le_pow_left ha n
  have h2 : 30 ^ n ≤ 30 ^ 3 := Nat.pow_le_pow_right (by omega) hn
  omega
theorem Mok.lens {fs xs : List Atom} (h : Mok fs xs) (b : List Int) : (mats fs xs b).length ≤ 27000 := Nat.le_trans (mats_len fs xs b) (pow_le h.f30 h.x3)
theorem Mok.tail {fs : List Atom} {x : Atom} {xs : List Atom} (h : Mok fs (x :: xs)) : Mok fs xs :=
  ⟨h.f30, by have := h.x3; simp only [List.length_cons] at this; omega, fun y hy => h.ts y (List.mem_cons_of_mem _ hy), fun y hy => h.len y (List.mem_cons_of_mem _ hy)⟩
def sub (fs xs : List Atom) (x : Atom) (b : List Int) (f : Atom) : BL := ((fitA x f b).map (mats fs xs)).getD []
theorem sub_len {fs xs : List Atom} (h : Mok fs xs) (x : Atom) (b : List Int) (f : Atom) : (sub fs xs x b f).length ≤ 27000 := by
  unfold sub
  cases fitA x f b with
  | none => simp
  | some b' => exact h.lens b'
/-- impl.matches -/
theorem c231 {fs : List Atom} (hk : 2000000 ≤ k) : ∀ (xs : List Atom), Mok fs xs → ∀ b : List Int, b.length = 5 → C (k + xs.length + 3) 231 [.d (.list 2 (A1 fs)), .d (.list 2 (A1 xs)), .d (.list 1 (I1 b))] = some [(false, [.row 39 1 (LL (mats fs xs b))])]
  | [], h, b, hb => by rw [F231.run, ite'_t (by rfl)]; rfl
  | x :: xs, h, b, hb => by
    have hmax : (1048576 : Nat) ≤ maxLen := by decide
    have hx0 := h.ts x List.mem_cons_self
    have hf30 := h.f30
    have main : ∀ (m i n : Nat) (acc : BL), i + m = fs.length → m < n → acc.length ≤ 27000 * i →
        F231.L5 (k + xs.length + 3) (C (k + xs.length + 3)) n (A1 fs) (A1 (x :: xs)) (I1 b) (A1 fs) (fs.length : Int) (i : Int) (LL acc) = some [(false, [.row 39 1 (LL (acc ++ (fs.drop i).flatMap (sub fs xs x b)))])] := by
      intro m
      induction m with
      | zero =>
        intro i n acc hm hn ha
        obtain ⟨n, rfl⟩ : ∃ j, n = j + 1 := ⟨n - 1, by omega⟩
        obtain rfl : i = fs.length := by omega
        rw [F231.L5.succ, ite'_f (lt_f (by omega)), List.drop_length]
        simp
      | succ m ih =>
        intro i n acc hm hn ha
        obtain ⟨n, rfl⟩ : ∃ j, n = j + 1 := ⟨n - 1, by omega⟩
        have hi : i < fs.length := by omega
        have hf := List.getElem?_eq_getElem hi
        have hfm := List.getElem_mem hi
        have hsl := sub_len h.tail x b fs[i]
        have e0 : cellI .i64 (A1 (x :: xs)) 0 0 = some x.1 := A1_c0 (xs := x :: xs) (i := 0) rfl
        have e1 : cellL 1 (A1 (x :: xs)) 0 1 = some (I1 x.2) := A1_c1 (xs := x :: xs) (i := 0) rfl
        have hin : inR (0 : Int) (A1 (x :: xs)).length = true := inR_t (i := 0) (by rw [A1_len]; simp)
        have hk1 : k + xs.length + 3 = (k + xs.length + 1) + 2 := rfl
        rw [F231.L5.succ, ite'_t (lt_t hi), A1_len, ite'_t (inR_t hi), A1_c0 hf, bindI_s, A1_c1 hf, bindL_s, hin, ite'_t rfl, e0, bindI_s, e1, bindL_s]
        have e123 : C (k + xs.length + 3) 267 [.d (.list 1 (I1 b)), .agg [.d (.int .i64 x.1), .d (.list 1 (I1 x.2))], .agg [.d (.int .i64 (fs[i]).1), .d (.list 1 (I1 (fs[i]).2))]] = fitR (fitA x fs[i] b) :=
          c267 (k := k + xs.length + 1) x fs[i] b hx0.1 (h.len x List.mem_cons_self _ hfm) hx0.2 hb (by omega)
        rw [e123, next_i hi (m := fs.length) (by omega), List.drop_eq_getElem_cons hi, List.flatMap_cons]
        cases hfa : fitA x fs[i] b with
        | none =>
          have hs : sub fs xs x b fs[i] = [] := by unfold sub; rw [hfa]; rfl
          rw [hs, List.nil_append]
          show F231.L5 (k + xs.length + 3) (C (k + xs.length + 3)) n (A1 fs) (A1 (x :: xs)) (I1 b) (A1 fs) (fs.length : Int) ((i + 1 : Nat) : Int) (LL acc) = _
          exact ih (i + 1) n acc (by omega) (by omega) (by omega)
        | some b' =>
          have hs : sub fs xs x b fs[i] = mats fs xs b' := by unfold sub; rw [hfa]; rfl
          have hb' : b'.length = 5 := by rw [fitA_len hfa]; exact hb
          rw [hs] at hsl ⊢
          have hins : inS (1 : Int) ((A1 (x :: xs)).length : Int) (A1 (x :: xs)).length = true := by
            simp only [inS, decide_eq_true_eq, A1_len, List.length_cons]; omega
          have hrec : C (k + xs.length + 3) 231 [.d (.list 2 (A1 fs)), .d (.list 2 (A1 xs)), .d (.list 1 (I1 b'))] = some [(false, [.row 39 1 (LL (mats fs xs b'))])] := c231 hk xs h.tail b' hb'
          rw [fitR_s, ite'_t rfl, hins, ite'_t rfl]
          show (bindR (C (k + xs.length + 3) 231 [.d (.list 2 (A1 fs)), .d (.list 2 (A1 xs)), .d (.list 1 (I1 b'))]) fun r20 => bindL (resO 39 1 1 false 1 r20 0 0) fun l87 => ite' (fits ((LL acc).length + l87.length)) (F231.L5 (k + xs.length + 3) (C (k + xs.length + 3)) n (A1 fs) (A1 (x :: xs)) (I1 b) (A1 fs) (fs.length : Int) ((i + 1 : Nat) : Int) (LL acc ++ l87)) none) = _
          rw [hrec]
          simp only [bindR_s, resO_s, bindL_s]
          rw [ite'_t (fits_t (by rw [LL_len, LL_len]; omega)), LL_app, ← List.append_assoc]
          exact ih (i + 1) n _ (by omega) (by omega) (by rw [List.length_append]; omega)
    have := main fs.length 0 (k + xs.length + 3) [] (by omega) (by omega) (by simp)
    rw [List.drop_zero, List.nil_append] at this
    rw [show k + (x :: xs).length + 3 = (k + xs.length + 3) + 1 by simp only [List.length_cons]; omega, F231.run, ite'_f (by rw [A1_len]; simp; omega), A1_len]
    exact this
end Go.Proofs.YthicohakeljdcaaGreat.Q

/-! ULb -/
namespace Go.Proofs.YthicohakeljdcaaGreat.Q
open Go Ovi
variable {k : Nat}
theorem cmpI_zero : ∀ (a b : List Int), cmpI a b = 0 ↔ a = b
  | [], [] => by simp [cmpI]
  | [], _ :: _ => by simp [cmpI]
  | _ :: _, [] => by simp [cmpI]
  | x :: xs, y :: ys => by
    unfold cmpI
    by_cases h1 : x < y
    · rw [if_pos h1]
      constructor
      · intro h; omega
      · intro h; cases h; omega
    · rw [if_neg h1]
      by_cases h2 : x > y
      · rw [if_pos h2]
        constructor
        · intro h; omega
        · intro h; cases h; omega
      · rw [if_neg h2, cmpI_zero xs ys]
        have : x = y := by omega
        subst this
        simp
theorem c236 (a b : List Int) (hk : a.length < k) (ha : a.length ≤ maxLen) : C (k + 1) 236 [.d (.list 1 (I1 a)), .d (.list 1 (I1 b))] = bo (decide (a = b)) := by
  rw [F236.run, I1_len, I1_len]
  by_cases hl : a.length = b.length
  · rw [ite'_f (by simp [hl])]
    have := loop_find (xs := a) (L := fun n i => F236.L4 k (C k) n (I1 a) (I1 b) (a.length : Int) i) (stop := fun i x => x != b.getD i 0) (hit := fun _ => bo false) (fin := bo true)
      (fun n i x hx => by
        have hi := (List.getElem?_eq_some_iff.1 hx).1
        have hy : b[i]? = some (b.getD i 0) := by rw [List.getD_eq_getElem?_getD, List.getElem?_eq_getElem (by omega)]; rfl
        rw [F236.L4.succ, I1_len, I1_len, ite'_t (lt_t hi), ite'_t (inR_t hi), I1_c hx, bindI_s, ite'_t (inR_t (by omega)), I1_c hy, bindI_s, next_i hi ha]; rfl)
      (fun n => by rw [F236.L4.succ, ite'_f (lt_f (by omega))]; rfl) k hk
    rcases this with ⟨i, x, hx, hst, e⟩ | ⟨hst, e⟩
    · rw [show F236.L4 k (C k) k (I1 a) (I1 b) (a.length : Int) 0 = _ from e]
      refine bo_eq (decide_eq_false (fun h => ?_)).symm
      subst h
      rw [List.getD_eq_getElem?_getD, hx] at hst
      simp at hst
    · rw [show F236.L4 k (C k) k (I1 a) (I1 b) (a.length : Int) 0 = _ from e]
      refine bo_eq (decide_eq_true ?_).symm
      apply List.ext_getElem?
      intro i
      by_cases hi : i < a.length
      · have := hst i a[i] (List.getElem?_eq_getElem hi)
        rw [List.getD_eq_getElem?_getD, List.getElem?_eq_getElem (by omega)] at this
        rw [List.getElem?_eq_getElem hi, List.getElem?_eq_getElem (by omega)]
        simpa using this
      · rw [List.getElem?_eq_none (by omega), List.getElem?_eq_none (by omega)]
  · rw [ite'_t (by simp; omega)]
    exact bo_eq (decide_eq_false (fun h => hl (by rw [h]))).symm
theorem fitT_s {b : List Int} {c : Bool} {f : Ovi.Rows → Bool → Option Res} : (bindR (some [(false, [.row 3 1 (I1 b)]), (false, [.d (.bool c)])]) fun r => bindL (resO 3 1 2 false 1 r 0 0) fun l => bindB (resB 2 false 1 r 1 0) fun d => f l d) = f (I1 b) c := rfl
/-- spec.l11Walk -/
theorem c177 {a : Ovi.Rows} {fs xs : List Atom} (hM : Mok fs xs) (hk : 2000000 ≤ k) : ∀ (m n : Nat), n + m = xs.length → ∀ b : List Int, b.length = 5 → C (k + m + 3) 177 [.agg [.d (.list 3 a), .d (.list 2 (A1 fs))], .d (.list 2 (A1 xs)), .d (.int .i64 (n : Int)), .d (.list 1 (I1 b))] = some [(false, [.row 39 1 (LL (mats fs (xs.drop n) b))])] := by
  have hmax : (1048576 : Nat) ≤ maxLen := by decide
  intro m
  induction m with
  | zero =>
    intro n hn b hb
    obtain rfl : n = xs.length := by omega
    rw [F177.run, A1_len, ite'_t (by simp), I1_len, ite'_t (fits_t (by omega)), List.drop_length]
    rfl
  | succ m ih =>
    intro n hn b hb
    have hnl : n < xs.length := by omega
    have hx := List.getElem?_eq_getElem hnl
    have hxm := List.getElem_mem hnl
    have hx0 := hM.ts _ hxm
    have hf30 := hM.f30
    have hx3 := hM.x3
    have hsub : ∀ f, (sub fs (xs.drop (n + 1)) xs[n] b f).length ≤ 27000 := fun f => by
      unfold sub
      cases fitA xs[n] f b with
      | none => simp
      | some b' => exact Nat.le_trans (mats_len fs _ b') (pow_le hf30 (by rw [List.length_drop]; omega))
    have main : ∀ (p i j : Nat) (acc : BL), i + p = fs.length → p < j → acc.length ≤ 27000 * i →
        F177.L5 (k + m + 3) (C (k + m + 3)) j (A1 xs) (n : Int) (I1 b) (i : Int) a (A1 fs) (LL acc) = some [(false, [.row 39 1 (LL (acc ++ (fs.drop i).flatMap (sub fs (xs.drop (n + 1)) xs[n] b)))])] := by
      intro p
      induction p with
      | zero =>
        intro i j acc hm hj ha
        obtain ⟨j, rfl⟩ : ∃ q, j = q + 1 := ⟨j - 1, by omega⟩
        obtain rfl : i = fs.length := by omega
        rw [F177.L5.succ, A1_len, ite'_f (lt_f (by omega)), List.drop_length]
        simp
      | succ p ihp =>
        intro i j acc hm hj ha
        obtain ⟨j, rfl⟩ : ∃ q, j = q + 1 := ⟨j - 1, by omega⟩
        have hi : i < fs.length := by omega
        have hf := List.getElem?_eq_getElem hi
        have hfm := List.getElem_mem hi
        have hsl := hsub fs[i]
        rw [F177.L5.succ, A1_len, ite'_t (lt_t hi), A1_len, ite'_t (inR_t hnl), A1_c0 hx, bindI_s, A1_c1 hx, bindL_s, ite'_t (inR_t hi), A1_c0 hf, bindI_s, A1_c1 hf, bindL_s]
        obtain ⟨y, e102, hy⟩ : FitT (fitA xs[n] fs[i] b) (C (k + m + 3) 229 [.agg [.d (.int .i64 (xs[n]).1), .d (.list 1 (I1 (xs[n]).2))], .agg [.d (.int .i64 (fs[i]).1), .d (.list 1 (I1 (fs[i]).2))], .d (.list 1 (I1 b))]) := c229 (k := k + m + 1) xs[n] fs[i] b hx0.1 (hM.len _ hxm _ hfm) hx0.2 hb (by omega)
        rw [e102, fitT_s, next_i hi (m := fs.length) (by omega), List.drop_eq_getElem_cons hi, List.flatMap_cons]
        cases hfa : fitA xs[n] fs[i] b with
        | none =>
          have hs : sub fs (xs.drop (n + 1)) xs[n] b fs[i] = [] := by unfold sub; rw [hfa]; rfl
          rw [hs, List.nil_append, show (none : Option (List Int)).isSome = false from rfl, ite'_f rfl]
          exact ihp (i + 1) j acc (by omega) (by omega) (by omega)
        | some b' =>
          have hs : sub fs (xs.drop (n + 1)) xs[n] b fs[i] = mats fs (xs.drop (n + 1)) b' := by unfold sub; rw [hfa]; rfl
          obtain rfl := hy b' hfa
          have hb' : y.length = 5 := by rw [fitA_len hfa]; exact hb
          rw [hs] at hsl ⊢
          have hw : IntKind.i64.wrap ((n : Int) + 1) = ((n + 1 : Nat) : Int) := next_i hnl (m := xs.length) (by omega)
          rw [show (some y).isSome = true from rfl, ite'_t rfl]
          rw [hw, ih (n + 1) (by omega) y hb']
          simp only [bindR_s, resO_s, bindL_s]
          rw [ite'_t (fits_t (by rw [LL_len, LL_len]; omega)), LL_app, ← List.append_assoc]
          exact ihp (i + 1) j _ (by omega) (by omega) (by rw [List.length_append]; omega)
    have := main fs.length 0 (k + m + 3) [] (by omega) (by omega) (by simp)
    rw [List.drop_zero, List.nil_append] at this
    rw [show k + (m + 1) + 3 = (k + m + 3) + 1 by omega, F177.run, A1_len, ite'_f (by simp; omega), List.drop_eq_getElem_cons hnl]
    exact this
def tens : List Int := [10, 10, 10, 10, 10]
theorem c232 : C (k + 2) 232 [] = some [(false, [.row 3 1 (I1 tens)])] := by
  have : C (k + 1) 268 [.d (.list 1 [[.int .i64 10]]), .d (.int .i64 5)] = rep5P 3 [.d (.list 1 [[.int .i64 10]]), .d (.int .i64 5)] := by kernel_rfl
  rw [F232.run, this]
  rfl
theorem c178 (hk : 100 ≤ k) : C (k + 2) 178 [] = some [(false, [.row 3 1 (I1 tens)])] := by
  have step : ∀ (n : Nat) (l : List Int), l.length < 5 → F178.L2 (k + 1) (C (k + 1)) (n + 1) (I1 l) = F178.L2 (k + 1) (C (k + 1)) n (I1 (l ++ [10])) := by
    intro n l hl
    have h5 : decide (((l.length : Nat) : Int) < 5) = true := by rw [decide_eq_true_eq]; omega
    have hf : fits (l.length + [[D.int IntKind.i64 10]].length) = true := fits_t (by simp only [List.length_cons, List.length_nil]; omega)
    rw [F178.L2.succ, I1_len, ite'_t h5, ten, iB', ite'_t hf, I1_snoc]
  obtain ⟨j, rfl⟩ : ∃ j, k = j + 5 := ⟨k - 5, by omega⟩
  have e : F178.L2 (j + 5 + 1) (C (j + 5 + 1)) (j + 5 + 1) (I1 []) = F178.L2 (j + 5 + 1) (C (j + 5 + 1)) (j + 1) (I1 [10, 10, 10, 10, 10]) :=
    (step (j + 5) [] (by simp)).trans ((step (j + 4) [10] (by simp)).trans ((step (j + 3) [10, 10] (by simp)).trans ((step (j + 2) [10, 10, 10] (by simp)).trans (step (j + 1) [10, 10, 10, 10] (by simp)))))
  have e2 : F178.L2 (j + 5 + 1) (C (j + 5 + 1)) (j + 1) (I1 [10, 10, 10, 10, 10]) = some [(false, [.row 3 1 (I1 tens)])] := by
    rw [F178.L2.succ, I1_len, ite'_f (by simp)]
    rfl
  rw [F178.run]
  exact e.trans e2
/-- slices.ContainsFunc on rows of lists -/
theorem c269 (L : BL) (f : FuncId) (caps : Ovi.Rows) (p : List Int → Bool) (hk : L.length < k) (hz : L.length ≤ maxLen) (hp : ∀ x ∈ L, C k f (.d (.list 1 (I1 x)) :: caps.map fun c => .cap c 0) = bo (p x)) : C (k + 2) 269 [.d (.list 1 (LL L)), .d (.fn f caps)] = bo (L.any p) := by
  rw [F269.run, F291.run, LL_len]
  have := loop_find (xs := L) (L := fun n i => F291.L2 k (C k) n (LL L) f caps (L.length : Int) i) (stop := fun _ x => p x) (hit := fun i => some [(false, [.d (.int .i64 (i : Int))])]) (fin := some [(false, [.d (.int .i64 (-1))])])
    (fun n i x hx => by
      have hi := (List.getElem?_eq_some_iff.1 hx).1
      rw [F291.L2.succ, LL_len, ite'_t (lt_t hi), ite'_t (inR_t hi), LL_c hx, bindL_s, next_i hi hz]
      have := hp x (List.mem_of_getElem? hx)
      simp only [List.append_eq, List.nil_append] at this ⊢
      rw [this, bB]; rfl)
    (fun n => by rw [F291.L2.succ, ite'_f (lt_f (by omega))]) k hk
  rcases this with ⟨i, x, hx, hst, e⟩ | ⟨hst, e⟩
  · rw [show F291.L2 k (C k) k (LL L) f caps (L.length : Int) 0 = _ from e]
    simp only [bindR_s, resI_s, bindI_s]
    refine bo_eq ?_
    rw [List.any_eq_true.2 ⟨x, List.mem_of_getElem? hx, hst⟩]
    simp
  · rw [show F291.L2 k (C k) k (LL L) f caps (L.length : Int) 0 = _ from e]
    simp only [bindR_s, resI_s, bindI_s]
    refine bo_eq ?_
    have : L.any p = false := by
      rw [List.any_eq_false]
      intro x hx
      obtain ⟨i, hi⟩ := List.mem_iff_getElem?.1 hx
      simpa using hst i x hi
    rw [this]; rfl
/-- impl.hasBinding -/
theorem c233 (L : BL) (z : List Int) (hk : L.length < k) (hz : L.length ≤ 1048576) (hx : ∀ x ∈ L, x.length ≤ 1048576) (hk2 : 2000000 ≤ k) : C (k + 5) 233 [.d (.list 1 (LL L)), .d (.list 1 (I1 z))] = bo (decide (z ∈ L)) := by
  have hmax : (1048576 : Nat) ≤ maxLen := by decide
  rw [F233.run, c269 (k := k + 2) L 270 [[.list 1 (I1 z)]] (fun x => decide (x = z)) (by omega) (by omega) (fun x hxm => by
    have := hx x hxm
    rw [List.map_cons, List.map_nil, F270.run, c236 (k := k) x z (by omega) (by omega), bB]; rfl), bB]
  refine bo_eq ?_
  rw [Bool.eq_iff_iff]
  simp
/-- impl.FindMatches, the loop -/
theorem l180 (all : BL) (hall : all.length ≤ 27000) (hl : ∀ x ∈ all, x.length = 5) (hk : 2000000 ≤ k) : F180.L5 (k + 5) (C (k + 5)) (k + 5) (all.length : Int) 0 [] (LL all) = some [(false, [.row 39 1 (LL (ded [] all))])] := by
  have hmax : (1048576 : Nat) ≤ maxLen := by decide
  have main : ∀ (m i n : Nat) (out : BL), i + m = all.length → m < n → out.length ≤ i → (∀ x ∈ out, x.length = 5) → F180.L5 (k + 5) (C (k + 5)) n (all.length : Int) (i : Int) (LL out) (LL all) = some [(false, [.row 39 1 (LL (ded out (all.drop i)))])] := by
    intro m
    induction m with
    | zero =>
      intro i n out hm hn ho hx
      obtain ⟨n, rfl⟩ : ∃ j, n = j + 1 := ⟨n - 1, by omega⟩
      obtain rfl : i = all.length := by omega
      rw [F180.L5.succ, ite'_f (lt_f (by omega)), List.drop_length, ded]
    | succ m ih =>
      intro i n out hm hn ho hx
      obtain ⟨n, rfl⟩ : ∃ j, n = j + 1 := ⟨n - 1, by omega⟩
      have hi : i < all.length := by omega
      have hg := List.getElem?_eq_getElem hi
      have h5 := hl _ (List.getElem_mem hi)
      rw [F180.L5.succ, ite'_t (lt_t hi), LL_len, ite'_t (inR_t hi), LL_c hg, bindL_s, c233 (k := k) out all[i] (by omega) (by omega) (fun x h => by rw [hx x h]; omega) hk, bB, next_i hi (m := all.length) (by omega), List.drop_eq_getElem_cons hi, ded]
      by_cases hmem : all[i] ∈ out
      · rw [decide_eq_true hmem, ite'_nt, if_pos hmem]
        exact ih (i + 1) n out (by omega) (by omega) (by omega) hx
      · rw [decide_eq_false hmem, ite'_nf, if_neg hmem, ite'_t (fits_t (by rw [LL_len]; simp; omega)), LL_snoc]
        refine ih (i + 1) n _ (by omega) (by omega) (by rw [List.length_append, List.length_singleton]; omega) (fun x h => ?_)
        rcases List.mem_append.1 h with h | h
        · exact hx x h
        · rw [List.mem_singleton.1 h]; exact h5
  exact main all.length 0 (k + 5) [] (by omega) (by omega) (Nat.zero_le _) (by simp)
/-- spec.FindMatches, the loop -/
theorem l105 (all : BL) (hall : all.length ≤ 27000) (hl : ∀ x ∈ all, x.length = 5) (hk : 2000000 ≤ k) : F105.L6 (k + 1) (C (k + 1)) (k + 1) 0 [] (LL all) = some [(false, [.row 39 1 (LL (ded [] all))])] := by
  have hmax : (1048576 : Nat) ≤ maxLen := by decide
  have inner : ∀ (out : BL) (i : Nat) (hi : i < all.length), out.length ≤ i → (∀ x ∈ out, x.length = 5) → ∀ (m j n k6 : Nat) (met : Bool), j + m = out.length → m < n →
      F105.L10 (k + 1) (C (k + 1)) k6 n (i : Int) met (j : Int) (LL out) (LL all) = F105.L6 (k + 1) (C (k + 1)) k6 ((i + 1 : Nat) : Int) (LL (if met = true ∨ all[i] ∈ out.drop j then out else out ++ [all[i]])) (LL all) := by
    intro out i hi ho hx m
    induction m with
    | zero =>
      intro j n k6 met hm hn
      obtain ⟨n, rfl⟩ : ∃ q, n = q + 1 := ⟨n - 1, by omega⟩
      obtain rfl : j = out.length := by omega
      rw [F105.L10.succ, LL_len, ite'_f (lt_f (by omega)), List.drop_length, next_i hi (m := all.length) (by omega), LL_len, LL_c (List.getElem?_eq_getElem hi)]
      cases met with
      | true => rw [ite'_nt, if_pos (.inl rfl)]
      | false => rw [ite'_nf, ite'_t (inR_t hi), bindL_s, ite'_t (fits_t (by simp; omega)), if_neg (by simp), LL_snoc]
    | succ m ih =>
      intro j n k6 met hm hn
      obtain ⟨n, rfl⟩ : ∃ q, n = q + 1 := ⟨n - 1, by omega⟩
      have hj : j < out.length := by omega
      have hg := List.getElem?_eq_getElem hj
      have h5 := hx _ (List.getElem_mem hj)
      rw [F105.L10.succ, LL_len, ite'_t (lt_t hj), next_i hj (m := out.length) (by omega), List.drop_eq_getElem_cons hj]
      cases met with
      | true =>
        rw [ite'_t rfl, ih (j + 1) n k6 true (by omega) (by omega), if_pos (.inl rfl), if_pos (.inl rfl)]
      | false =>
        rw [ite'_f rfl, ite'_t (inR_t hj), LL_c hg, bindL_s, LL_len, ite'_t (inR_t hi), LL_c (List.getElem?_eq_getElem hi), bindL_s, c179 (k := k) out[j] all[i] (by omega) (by omega), iB', ih (j + 1) n k6 _ (by omega) (by omega)]
        congr 2
        by_cases he : out[j] = all[i]
        · rw [if_pos (.inl (by rw [(cmpI_zero _ _).2 he]; rfl)), if_pos (.inr (by rw [he]; exact List.mem_cons_self))]
        · have h0 : (cmpI out[j] all[i] == 0) = false := by
            rw [beq_eq_false_iff_ne]
            exact fun h => he ((cmpI_zero _ _).1 h)
          rw [h0]
          by_cases hmem : all[i] ∈ out.drop (j + 1)
          · rw [if_pos (.inr hmem), if_pos (.inr (List.mem_cons_of_mem _ hmem))]
          · rw [if_neg (by simp [hmem]), if_neg (by
              rintro (h | h)
              · cases h
              · rcases List.mem_cons.1 h with h | h
                · exact he h.symm
                · exact hmem h)]
  have main : ∀ (m i n : Nat) (out : BL), i + m = all.length → m < n → out.length ≤ i → (∀ x ∈ out, x.length = 5) → F105.L6 (k + 1) (C (k + 1)) n (i : Int) (LL out) (LL all) = some [(false, [.row 39 1 (LL (ded out (all.drop i)))])] := by
    intro m
    induction m with
    | zero =>
      intro i n out hm hn ho hx
      obtain ⟨n, rfl⟩ : ∃ j, n = j + 1 := ⟨n - 1, by omega⟩
      obtain rfl : i = all.length := by omega
      rw [F105.L6.succ, LL_len, ite'_f (lt_f (by omega)), List.drop_length, ded]
    | succ m ih =>
      intro i n out hm hn ho hx
      obtain ⟨n, rfl⟩ : ∃ j, n = j + 1 := ⟨n - 1, by omega⟩
      have hi : i < all.length := by omega
      have h5 := hl _ (List.getElem_mem hi)
      rw [F105.L6.succ, LL_len, ite'_t (lt_t hi)]
      have := inner out i hi ho hx out.length 0 (k + 1) n false (by omega) (by omega)
      rw [show ((0 : Nat) : Int) = 0 from rfl, List.drop_zero] at this
      rw [this, List.drop_eq_getElem_cons hi, ded]
      by_cases hmem : all[i] ∈ out
      · rw [if_pos (.inr hmem), if_pos hmem]
        exact ih (i + 1) n out (by omega) (by omega) (by omega) hx
      · rw [if_neg (by simp [hmem]), if_neg hmem]
        refine ih (i + 1) n _ (by omega) (by omega) (by rw [List.length_append, List.length_singleton]; omega) (fun x h => ?_)
        rcases List.mem_append.1 h with h | h
        · exact hx x h
        · rw [List.mem_singleton.1 h]; exact h5
  exact main all.length 0 (k + 1) [] (by omega) (by omega) (Nat.zero_le _) (by simp)
end Go.Proofs.YthicohakeljdcaaGreat.Q

/-! ULc -/
namespace Go.Proofs.YthicohakeljdcaaGreat.Q
open Go Ovi
variable {k : Nat}
theorem cmpI_L : ∀ a b : List Int, cmpI a b = cmpL a b
  | [], [] => rfl
  | [], _ :: _ => rfl
  | _ :: _, [] => rfl
  | x :: xs, y :: ys => by
    unfold cmpI cmpL
    rw [cmpI_L xs ys]
theorem take_filter_snoc {p : List Int → Bool} {all : BL} {i : Nat} (hi : i < all.length) : (all.take (i + 1)).filter p = (all.take i).filter p ++ (if p all[i] then [all[i]] else []) := by
  rw [List.take_succ_eq_append_getElem hi, List.filter_append]
  congr 1
  cases h : p all[i] <;> simp [h]
/-- impl.rowsOf -/
theorem l107 (all : BL) (q : List Int) (X : Ovi.Rows) (f : FuncId) (caps : Ovi.Rows) (p : List Int → Bool) (hp : ∀ x ∈ all, C (k + 1) f (.d (.list 1 (I1 x)) :: [].append (caps.map fun c : List D => .cap c 0)) = bo (p x)) (hall : all.length ≤ 27000) (hl : ∀ x ∈ all, x.length = 5) (hq : ∀ v ∈ q, 0 ≤ v ∧ v < 5) (hq3 : q.length ≤ 3) (hk : 2000000 ≤ k) :
    F107.L3 (k + 1) (C (k + 1)) (k + 1) f caps (all.length : Int) 0 (I1 q) X [] (LL all) = some [(false, [.frow 39 1 1 (LL (Lib.compact (sortLists ((all.filter p).map (proj q)))))])] := by
  have hmax : (1048576 : Nat) ≤ maxLen := by decide
  have inner : ∀ (out : BL) (i : Nat) (b : List Int), b.length = 5 → i < all.length → out.length ≤ i → ∀ (m j n k3 : Nat), j + m = q.length → m < n →
      F107.L8 (k + 1) (C (k + 1)) k3 n f caps (I1 b) (all.length : Int) (i : Int) (I1 q) (q.length : Int) (j : Int) (I1 q) X (LL out) (I1 ((q.take j).map fun v => b.getD v.toNat 0)) (LL all) =
      F107.L3 (k + 1) (C (k + 1)) k3 f caps (all.length : Int) ((i + 1 : Nat) : Int) (I1 q) X (LL (out ++ [proj q b])) (LL all) := by
    intro out i b hb hi ho m
    induction m with
    | zero =>
      intro j n k3 hm hn
      obtain ⟨n, rfl⟩ : ∃ p, n = p + 1 := ⟨n - 1, by omega⟩
      obtain rfl : j = q.length := by omega
      rw [F107.L8.succ, ite'_f (lt_f (by omega)), List.take_length, ite'_t (fits_t (by rw [LL_len]; simp; omega)), next_i hi (m := all.length) (by omega), LL_snoc]
      rfl
    | succ m ih =>
      intro j n k3 hm hn
      obtain ⟨n, rfl⟩ : ∃ p, n = p + 1 := ⟨n - 1, by omega⟩
      have hj : j < q.length := by omega
      have hg := List.getElem?_eq_getElem hj
      obtain ⟨h1, h2⟩ := hq _ (List.getElem_mem hj)
      obtain ⟨p, hp⟩ : ∃ p : Nat, q[j] = (p : Int) := ⟨q[j].toNat, by omega⟩
      have hp5 : p < b.length := by omega
      have hbp : b[p]? = some (b.getD p 0) := by rw [List.getD_eq_getElem?_getD, List.getElem?_eq_getElem hp5]; rfl
      have := ih (j + 1) n k3 (by omega) (by omega)
      rw [List.take_succ_eq_append_getElem hj, List.map_append] at this
      rw [F107.L8.succ, ite'_t (lt_t hj), I1_len, ite'_t (inR_t hj), I1_c hg, bindI_s, hp, I1_len, ite'_t (inR_t hp5), I1_c hbp, bindI_s, I1_len, ite'_t (fits_t (by simp only [List.length_map, List.length_take, List.length_cons, List.length_nil]; omega)), next_i hj (m := q.length) (by omega), I1_snoc, ← this]
      rw [List.map_cons, List.map_nil, hp, Int.toNat_natCast]
  have main : ∀ (m i n : Nat), i + m = all.length → m < n → F107.L3 (k + 1) (C (k + 1)) n f caps (all.length : Int) (i : Int) (I1 q) X (LL (((all.take i).filter p).map (proj q))) (LL all) = some [(false, [.frow 39 1 1 (LL (Lib.compact (sortLists ((all.filter p).map (proj q)))))])] := by
    intro m
    induction m with
    | zero =>
      intro i n hm hn
      obtain ⟨n, rfl⟩ : ∃ j, n = j + 1 := ⟨n - 1, by omega⟩
      obtain rfl : i = all.length := by omega
      rw [List.take_length]
      have hfl : (all.filter p).length ≤ all.length := List.length_filter_le _ _
      have e75 : C (k + 1) 181 [.var 0 0, .d (.int .i64 39), .d (.list 1 (LL ((all.filter p).map (proj q))))] = some [(false, [.frow 39 1 1 (LL (Lib.compact (sortLists ((all.filter p).map (proj q)))))]), (true, [])] := by
        have : C (k + 1) 181 [.var 0 0, .d (.int .i64 39), .d (.list 1 (LL ((all.filter p).map (proj q))))] = rowsSetGP [.var 0 0, .d (.int .i64 39), .d (.list 1 (LL ((all.filter p).map (proj q))))] := by kernel_rfl
        rw [this]
        unfold rowsSetGP rowsArg
        simp only [lists_LL, Option.bind_some]
        rw [show (Nat.ble ((all.filter p).map (proj q)).length 1099511627776 && ((all.filter p).map (proj q)).all fun z => Nat.ble z.length 1099511627776) = true by
          rw [Bool.and_eq_true, List.all_eq_true]
          refine ⟨Nat.ble_eq_true_of_le (by rw [List.length_map]; omega), fun z hz => Nat.ble_eq_true_of_le ?_⟩
          obtain ⟨x, _, rfl⟩ := List.mem_map.1 hz
          simp only [proj, List.length_map]; omega]
        simp only [cond_true, Option.bind_some]
        rw [decide_eq_true (ssL_nodup _)]
        rfl
      rw [F107.L3.succ, ite'_f (lt_f (by omega)), e75]
      rfl
    | succ m ih =>
      intro i n hm hn
      obtain ⟨n, rfl⟩ : ∃ j, n = j + 1 := ⟨n - 1, by omega⟩
      have hi : i < all.length := by omega
      have hg := List.getElem?_eq_getElem hi
      have h5 := hl _ (List.getElem_mem hi)
      have hfl : ((all.take i).filter p).length ≤ (all.take i).length := List.length_filter_le _ _
      rw [List.length_take] at hfl
      have hnx := ih (i + 1) n (by omega) (by omega)
      rw [take_filter_snoc hi] at hnx
      rw [F107.L3.succ, ite'_t (lt_t hi), LL_len, ite'_t (inR_t hi), LL_c hg, bindL_s, hp _ (List.getElem_mem hi), bB]
      cases hpi : p all[i] with
      | false =>
        rw [hpi] at hnx
        simp only [Bool.false_eq_true, if_false, List.append_nil] at hnx
        rw [ite'_nf, next_i hi (m := all.length) (by omega)]
        exact hnx
      | true =>
        rw [hpi] at hnx
        simp only [if_true, List.map_append, List.map_cons, List.map_nil] at hnx
        rw [ite'_nt, I1_len]
        have := inner (((all.take i).filter p).map (proj q)) i all[i] h5 hi (by rw [List.length_map]; omega) q.length 0 (k + 1) n (by omega) (by omega)
        rw [List.take_zero, List.map_nil, show ((0 : Nat) : Int) = 0 from rfl] at this
        rw [show F107.L8 (k + 1) (C (k + 1)) n (k + 1) f caps (I1 all[i]) (all.length : Int) (i : Int) (I1 q) (q.length : Int) 0 (I1 q) X (LL (((all.take i).filter p).map (proj q))) [] (LL all) = _ from this]
        exact hnx
  exact main all.length 0 (k + 1) (by omega) (by omega)
/-- spec.l20PutRow -/
theorem c106 (l : BL) (row : List Int) (hs : SSL l) (hl : l.length ≤ 27000) (hx : ∀ x ∈ l, x.length ≤ 3) (hk : 2000000 ≤ k) :
    ∃ r ws, C (k + 2) 106 [.d (.list 1 (LL l)), .d (.list 1 (I1 row))] = some r ∧ resL 1 1 false 1 r 0 0 = some (LL ws) ∧ (∀ z, z ∈ ws ↔ z ∈ l ∨ z = row) ∧ ws.length ≤ l.length + 1 ∧ SSL ws := by
  have hmax : (1048576 : Nat) ≤ maxLen := by decide
  rw [F106.run]
  have ins : ∀ i : Nat, i ≤ l.length → row ∉ l → (∀ j y, j < i → l[j]? = some y → ltL y row = true) → (∀ y, l[i]? = some y → ltL y row = false) → ∃ r ws, (ite' (inS (i : Int) ((LL l).length : Int) (LL l).length) (ite' (fits ([[D.list 1 (I1 row)]].length + (List.drop (i : Int).toNat (LL l)).length)) (ite' (inS (0 : Int) (i : Int) (LL l).length) (ite' (fits (List.take (i : Int).toNat (LL l)).length) (ite' (fits ((List.take (i : Int).toNat (LL l)).length + List.length ([[D.list 1 (I1 row)]] ++ List.drop (i : Int).toNat (LL l)))) (some ([(false, [RL.row 39 1 (List.take (i : Int).toNat (LL l) ++ ([[D.list 1 (I1 row)]] ++ List.drop (i : Int).toNat (LL l)))])])) (none)) (none)) (none)) (none)) (none)) = some r ∧ resL 1 1 false 1 r 0 0 = some (LL ws) ∧ (∀ z, z ∈ ws ↔ z ∈ l ∨ z = row) ∧ ws.length ≤ l.length + 1 ∧ SSL ws := by
    intro i hi hnm hlt hge
    rw [Int.toNat_natCast, LL_len, ite'_t (by simp only [inS, decide_eq_true_eq]; omega), ite'_t (fits_t (by rw [List.length_drop, LL_len]; simp; omega)), ite'_t (by simp only [inS, decide_eq_true_eq]; omega), ite'_t (fits_t (by rw [List.length_take, LL_len]; omega)), ite'_t (fits_t (by rw [List.length_take, List.length_append, List.length_drop, LL_len]; simp; omega))]
    refine ⟨_, l.take i ++ (row :: l.drop i), rfl, ?_, fun z => ?_, ?_, ssL_ins hs hnm hlt hge⟩
    · rw [resL_s]
      simp [LL]
    · rw [List.mem_append, List.mem_cons]
      have : z ∈ l ↔ z ∈ l.take i ∨ z ∈ l.drop i := by rw [← List.mem_append, List.take_append_drop]
      rw [this]
      constructor
      · rintro (h | h | h)
        · exact .inl (.inl h)
        · exact .inr h
        · exact .inl (.inr h)
      · rintro ((h | h) | h)
        · exact .inl h
        · exact .inr (.inr h)
        · exact .inr (.inl h)
    · simp only [List.length_append, List.length_cons, List.length_take, List.length_drop]; omega
  have nin : ∀ i : Nat, i ≤ l.length → (∀ j y, j < i → l[j]? = some y → ltL y row = true) → (∀ y, l[i]? = some y → ltL row y = true) → row ∉ l := by
    intro i hi h1 h2 hm
    obtain ⟨j, hj⟩ := List.mem_iff_getElem?.1 hm
    by_cases hji : j < i
    · exact ltL_ne (h1 j row hji hj) rfl
    · have hjl := (List.getElem?_eq_some_iff.1 hj).1
      have e := (List.getElem?_eq_some_iff.1 hj).2
      have h3 := h2 l[i] (List.getElem?_eq_getElem (by omega))
      by_cases hij : i = j
      · subst hij
        rw [e] at h3
        exact ltL_ne h3 rfl
      · have := List.pairwise_iff_getElem.1 hs i j (by omega) hjl (by omega)
        rw [e] at this
        rw [ltL_asymm this] at h3
        cases h3
  have main : ∀ (m i n : Nat), i + m = l.length → m < n → (∀ j y, j < i → l[j]? = some y → ltL y row = true) → ∃ r ws, F106.L2 (k + 1) (C (k + 1)) n (LL l) (I1 row) (i : Int) = some r ∧ resL 1 1 false 1 r 0 0 = some (LL ws) ∧ (∀ z, z ∈ ws ↔ z ∈ l ∨ z = row) ∧ ws.length ≤ l.length + 1 ∧ SSL ws := by
    intro m
    induction m with
    | zero =>
      intro i n hm hn hlt
      obtain ⟨n, rfl⟩ : ∃ j, n = j + 1 := ⟨n - 1, by omega⟩
      obtain rfl : i = l.length := by omega
      have hno : ∀ y, l[l.length]? = some y → False := fun y h => by rw [List.getElem?_eq_none (Nat.le_refl _)] at h; cases h
      have h0 : decide (((l.length : Nat) : Int) < ((LL l).length : Int)) = false := by rw [LL_len]; exact lt_f (by omega)
      rw [F106.L2.succ, h0, ite'_f rfl, ite'_f rfl]
      exact ins l.length (Nat.le_refl _) (nin l.length (Nat.le_refl _) hlt fun y h => (hno y h).elim) hlt fun y h => (hno y h).elim
    | succ m ih =>
      intro i n hm hn hlt
      obtain ⟨n, rfl⟩ : ∃ j, n = j + 1 := ⟨n - 1, by omega⟩
      have hi : i < l.length := by omega
      have hg := List.getElem?_eq_getElem hi
      have hxl := hx _ (List.getElem_mem hi)
      have h0 : decide ((i : Int) < ((LL l).length : Int)) = true := by rw [LL_len]; exact lt_t hi
      have h1 : inR (i : Int) (LL l).length = true := by rw [LL_len]; exact inR_t hi
      rw [F106.L2.succ, h0, ite'_t rfl, h1, ite'_t rfl, LL_c hg, bindL_s, c179 (k := k) l[i] row (by omega) (by omega), iB']
      by_cases hc : cmpI l[i] row < 0
      · rw [ite'_t (by simpa using hc), next_i hi (m := l.length) (by omega)]
        refine ih (i + 1) n (by omega) (by omega) fun j y hj hy => ?_
        by_cases hji : j = i
        · subst hji
          rw [hg] at hy
          cases hy
          rw [cmpI_L] at hc
          exact decide_eq_true hc
        · exact hlt j y (by omega) hy
      · rw [ite'_f (by simpa using hc), ite'_t rfl, ite'_t rfl, bindL_s, c179 (k := k) l[i] row (by omega) (by omega), iB']
        by_cases he : cmpI l[i] row = 0
        · rw [ite'_t (by simpa using he)]
          refine ⟨_, l, rfl, resL_d _ _, fun z => ?_, by omega, hs⟩
          constructor
          · exact fun h => .inl h
          · rintro (h | rfl)
            · exact h
            · rw [← (cmpI_zero _ _).1 he]; exact List.getElem_mem hi
        · rw [ite'_f (by simpa using he)]
          have hge : ltL l[i] row = false := by
            rw [cmpI_L] at hc
            exact decide_eq_false hc
          have hgt : ltL row l[i] = true := by
            rcases ltL_tri l[i] row with h | h | h
            · rw [h] at hge; cases hge
            · exact absurd ((cmpI_zero _ _).2 h) he
            · exact h
          exact ins i (by omega) (nin i (by omega) hlt fun y hy => by rw [hg] at hy; cases hy; exact hgt) hlt fun y hy => by rw [hg] at hy; cases hy; exact hge
  exact main l.length 0 (k + 1) (by omega) (by omega) (fun j y hj => by omega)
/-- spec.Evaluate, the loop -/
theorem l31 (all : BL) (q : List Int) (X : Ovi.Rows) (hall : all.length ≤ 27000) (hl : ∀ x ∈ all, x.length = 5) (hq : ∀ v ∈ q, 0 ≤ v ∧ v < 5) (hq3 : q.length ≤ 3) (hk : 2000000 ≤ k) :
    ∃ ws, F31.L6 (k + 2) (C (k + 2)) (k + 2) [] 0 (I1 q) X (LL all) = some [(false, [.d (.list 1 (LL ws))])] ∧ (∀ z, z ∈ ws ↔ z ∈ all.map (proj q)) ∧ ws.length ≤ 27000 ∧ SSL ws := by
  have hmax : (1048576 : Nat) ≤ maxLen := by decide
  have inner : ∀ (out : BL) (i : Nat) (hi : i < all.length), ∀ (m j n k6 : Nat), j + m = q.length → m < n →
      F31.L10 (k + 2) (C (k + 2)) k6 n (LL out) (i : Int) (j : Int) (I1 q) X (LL all) (I1 ((q.take j).map fun v => (all[i]).getD v.toNat 0)) =
      bindR (C (k + 2) 106 [.d (.list 1 (LL out)), .d (.list 1 (I1 (proj q all[i])))]) fun r15 => bindL (resL 1 1 false 1 r15 0 0) fun l16 => F31.L6 (k + 2) (C (k + 2)) k6 l16 ((i + 1 : Nat) : Int) (I1 q) X (LL all) := by
    intro out i hi m
    induction m with
    | zero =>
      intro j n k6 hm hn
      obtain ⟨n, rfl⟩ : ∃ p, n = p + 1 := ⟨n - 1, by omega⟩
      obtain rfl : j = q.length := by omega
      rw [F31.L10.succ, I1_len, ite'_f (lt_f (by omega)), List.take_length, next_i hi (m := all.length) (by omega)]
      rfl
    | succ m ih =>
      intro j n k6 hm hn
      obtain ⟨n, rfl⟩ : ∃ p, n = p + 1 := ⟨n - 1, by omega⟩
      have hj : j < q.length := by omega
      have hg := List.getElem?_eq_getElem hj
      have hb := hl _ (List.getElem_mem hi)
      obtain ⟨h1, h2⟩ := hq _ (List.getElem_mem hj)
      obtain ⟨p, hp⟩ : ∃ p : Nat, q[j] = (p : Int) := ⟨q[j].toNat, by omega⟩
      have hp5 : p < (all[i]).length := by omega
      have hbp : (all[i])[p]? = some ((all[i]).getD p 0) := by rw [List.getD_eq_getElem?_getD, List.getElem?_eq_getElem hp5]; rfl
      have := ih (j + 1) n k6 (by omega) (by omega)
      rw [List.take_succ_eq_append_getElem hj, List.map_append] at this
      rw [F31.L10.succ, I1_len, ite'_t (lt_t hj), LL_len, ite'_t (inR_t hi), LL_c (List.getElem?_eq_getElem hi), bindL_s, ite'_t (inR_t hj), I1_c hg, bindI_s, hp, I1_len, ite'_t (inR_t hp5), I1_c hbp, bindI_s, I1_len, ite'_t (fits_t (by simp only [List.length_map, List.length_take, List.length_cons, List.length_nil]; omega)), next_i hj (m := q.length) (by omega), I1_snoc, ← this]
      rw [List.map_cons, List.map_nil, hp, Int.toNat_natCast]
  have main : ∀ (m i n : Nat) (acc : BL), i + m = all.length → m < n → acc.length ≤ i → (∀ x ∈ acc, x.length ≤ 3) → SSL acc → ∃ ws, F31.L6 (k + 2) (C (k + 2)) n (LL acc) (i : Int) (I1 q) X (LL all) = some [(false, [.d (.list 1 (LL ws))])] ∧ (∀ z, z ∈ ws ↔ z ∈ acc ∨ z ∈ (all.drop i).map (proj q)) ∧ ws.length ≤ 27000 ∧ SSL ws := by
    intro m
    induction m with
    | zero =>
      intro i n acc hm hn ha hx hsa
      obtain ⟨n, rfl⟩ : ∃ j, n = j + 1 := ⟨n - 1, by omega⟩
      obtain rfl : i = all.length := by omega
      rw [F31.L6.succ, LL_len, ite'_f (lt_f (by omega)), List.drop_length]
      exact ⟨acc, rfl, by simp, by omega, hsa⟩
    | succ m ih =>
      intro i n acc hm hn ha hx hsa
      obtain ⟨n, rfl⟩ : ∃ j, n = j + 1 := ⟨n - 1, by omega⟩
      have hi : i < all.length := by omega
      obtain ⟨r, ws, e1, e2, e3, e4, e5⟩ := c106 (k := k) acc (proj q all[i]) hsa (by omega) hx hk
      have := inner acc i hi q.length 0 (k + 2) n (by omega) (by omega)
      rw [List.take_zero, List.map_nil, show ((0 : Nat) : Int) = 0 from rfl, e1, bindR_s, e2, bindL_s] at this
      rw [F31.L6.succ, LL_len, ite'_t (lt_t hi), show F31.L10 (k + 2) (C (k + 2)) n (k + 2) (LL acc) (i : Int) 0 (I1 q) X (LL all) [] = _ from this]
      obtain ⟨ws2, g1, g2, g3, g4⟩ := ih (i + 1) n ws (by omega) (by omega) (by omega) (fun x h => by
        rcases (e3 x).1 h with h | rfl
        · exact hx x h
        · simp only [proj, List.length_map]; omega) e5
      refine ⟨ws2, g1, fun z => ?_, g3, g4⟩
      rw [g2, e3, List.drop_eq_getElem_cons hi, List.map_cons, List.mem_cons]
      constructor
      · rintro ((h | h) | h)
        · exact .inl h
        · exact .inr (.inl h)
        · exact .inr (.inr h)
      · rintro (h | h | h)
        · exact .inl (.inl h)
        · exact .inl (.inr h)
        · exact .inr h
  obtain ⟨ws, g1, g2, g3, g4⟩ := main all.length 0 (k + 2) [] (by omega) (by omega) (Nat.zero_le _) (by simp) List.Pairwise.nil
  exact ⟨ws, g1, fun z => by rw [g2]; simp, g3, g4⟩
end Go.Proofs.YthicohakeljdcaaGreat.Q

/-! ULd -/
namespace Go.Proofs.YthicohakeljdcaaGreat.Q
open Go Ovi
variable {k : Nat}
/-- impl.IsValidQuery's first part -/
theorem c162 {a : Ovi.Rows} {xs : List Atom} {valid : Atom → Bool} (hv : Valid a xs valid) (hk : 2000000 ≤ k) (ha : a.length ≤ 1048576) (hs : terms xs + xs.length ≤ 1048576) :
    C (k + 9) 162 [.d (.list 3 a), .d (.list 2 (A1 xs)), .d (.int .i64 3)] = bo (decide ((1 : Int) ≤ (xs.length : Int) ∧ (xs.length : Int) ≤ 3) && xs.all valid) := by
  have hmax : (1048576 : Nat) ≤ maxLen := by decide
  rw [F162.run, c73, bB, A1_len]
  cases decide ((1 : Int) ≤ (xs.length : Int) ∧ (xs.length : Int) ≤ 3) with
  | false => rfl
  | true =>
    rw [ite'_t rfl, c217 (k := k + 6) xs 218 [[.list 3 a]] (fun x => !valid x) (by omega) (by omega) (fun x hx => by
      have := len_terms hx
      rw [List.map_cons, List.map_nil, F218.run, (hv x hx k (by omega) (by omega)).1, bB]; rfl), bB]
    exact bo_eq (any_not xs valid)
/-- a query that is valid, and what the instance answers -/
structure Qok (a : Ovi.Rows) (fs xs : List Atom) (valid : Atom → Bool) (ib : Bool) : Prop where
  ha : a.length ≤ 1048576
  hs : terms xs + xs.length ≤ 1048576
  hv : Valid a xs valid
  h1 : 1 ≤ xs.length
  h3 : xs.length ≤ 3
  all : ∀ x ∈ xs, valid x = true
  inst : ∀ k, 2000000 ≤ k → C (k + 8) 100 [.agg [.d (.list 3 a), .d (.list 2 (A1 fs))]] = bo ib ∧ C (k + 8) 67 [.agg [.d (.list 3 a), .d (.list 2 (A1 fs))]] = bo ib
  mok : ib = true → Mok fs xs
variable {a : Ovi.Rows} {fs xs : List Atom} {valid : Atom → Bool} {ib : Bool}
theorem c230 (h : Qok a fs xs valid ib) (hk : 2000000 ≤ k) : C (k + 15) 230 [.agg [.d (.list 3 a), .d (.list 2 (A1 fs))], .d (.list 2 (A1 xs))] = bo ib := by
  rw [F230.run, (h.inst (k + 6) (by omega)).1, bB]
  cases ib with
  | false => rfl
  | true =>
    have := h.h1
    have h13 : decide ((1 : Int) ≤ (xs.length : Int) ∧ (xs.length : Int) ≤ 3) = true := decide_eq_true (by have := h.h3; omega)
    rw [ite'_t rfl, A1_len, ite'_f (beq_eq_false_iff_ne.2 (by omega)), c162 (k := k + 5) h.hv (by omega) h.ha h.hs, bB, h13, List.all_eq_true.2 h.all]
    rfl
theorem c176 (h : Qok a fs xs valid ib) (hk : 2000000 ≤ k) : C (k + 16) 176 [.agg [.d (.list 3 a), .d (.list 2 (A1 fs))], .d (.list 2 (A1 xs))] = bo ib := by
  have hmax : (1048576 : Nat) ≤ maxLen := by decide
  have h3 := h.h3
  rw [F176.run]
  have := loop_any (xs := xs) (L := fun n i => F176.L2 (k + 15) (C (k + 15)) n (A1 xs) i a (A1 fs)) (stop := fun x => !valid x) (hit := bo false) (fin := bo ib)
    (fun n i x hx => by
      have hi := (List.getElem?_eq_some_iff.1 hx).1
      have hxm := List.mem_of_getElem? hx
      have hl := len_terms hxm
      have hs := h.hs
      have ha := h.ha
      rw [F176.L2.succ, A1_len, ite'_t (lt_t hi), ite'_t (inR_t hi), A1_c0 hx, bindI_s, A1_c1 hx, bindL_s, (h.hv x hxm (k + 10) (by omega) (by omega)).2, bB, next_i hi (m := xs.length) (by omega)]; rfl)
    (fun n => by
      rw [F176.L2.succ, A1_len, ite'_f (lt_f (by omega)), (h.inst (k + 7) (by omega)).2, bB]
      cases ib with
      | false => rfl
      | true => rw [ite'_t rfl, decide_eq_true (by omega)]; rfl) (k + 15) (by omega)
  rw [show F176.L2 (k + 15) (C (k + 15)) (k + 15) (A1 xs) 0 a (A1 fs) = _ from this]
  have hf : (xs.any fun x => !valid x) = false := by
    rw [List.any_eq_false]
    intro x hx
    rw [h.all x hx]; decide
  rw [hf]; rfl
/-- every match found, each once -/
def mtc (fs xs : List Atom) : BL := ded [] (mats fs xs tens)
theorem mats_short (h : Mok fs xs) : (mats fs xs tens).length ≤ 27000 ∧ ∀ x ∈ mats fs xs tens, x.length = 5 := ⟨h.lens tens, fun x hx => by rw [mats_mem fs xs tens x hx]; rfl⟩
theorem mt_short (h : Mok fs xs) : (mtc fs xs).length ≤ 27000 ∧ ∀ x ∈ mtc fs xs, x.length = 5 := by
  obtain ⟨h1, h2⟩ := mats_short h
  unfold mtc
  refine ⟨?_, fun x hx => ?_⟩
  · have := ded_len (mats fs xs tens) []
    simp only [List.length_nil] at this
    omega
  · rcases (ded_mem _ _ _).1 hx with h | h
    · cases h
    · exact h2 x h
def mtr (ib : Bool) (fs xs : List Atom) : Option Res := cond ib (some [(false, [.row 39 1 (LL (mtc fs xs))])]) (some [(false, [.nil])])
/-- impl.FindMatches -/
theorem c180 (h : Qok a fs xs valid ib) (hk : 2000000 ≤ k) : C (k + 16) 180 [.agg [.d (.list 3 a), .d (.list 2 (A1 fs))], .d (.list 2 (A1 xs))] = mtr ib fs xs := by
  rw [F180.run, c230 h hk, bB]
  cases ib with
  | false => rfl
  | true =>
    have hm := h.mok rfl
    have h3 := h.h3
    obtain ⟨h1, h2⟩ := mats_short hm
    obtain ⟨j, hj, hj2⟩ : ∃ j, k + 15 = j + xs.length + 3 ∧ 2000000 ≤ j := ⟨k + 12 - xs.length, by omega, by omega⟩
    have e105 : C (k + 15) 231 [.d (.list 2 (A1 fs)), .d (.list 2 (A1 xs)), .d (.list 1 (I1 tens))] = some [(false, [.row 39 1 (LL (mats fs xs tens))])] := by
      rw [hj]; exact c231 hj2 xs hm tens rfl
    rw [ite'_nt, c232 (k := k + 13)]
    simp only [bindR_s, resO_s, bindL_s]
    rw [e105]
    simp only [bindR_s, resO_s, bindL_s]
    rw [LL_len]
    exact l180 (k := k + 10) _ h1 h2 (by omega)
/-- spec.FindMatches -/
theorem c105 (h : Qok a fs xs valid ib) (hk : 2000000 ≤ k) : C (k + 17) 105 [.agg [.d (.list 3 a), .d (.list 2 (A1 fs))], .d (.list 2 (A1 xs))] = mtr ib fs xs := by
  rw [F105.run, c176 h hk, bB]
  cases ib with
  | false => rfl
  | true =>
    have hm := h.mok rfl
    have h3 := h.h3
    obtain ⟨h1, h2⟩ := mats_short hm
    have e71 : C (k + 16) 177 [.agg [.d (.list 3 a), .d (.list 2 (A1 fs))], .d (.list 2 (A1 xs)), .d (.int .i64 0), .d (.list 1 (I1 tens))] = some [(false, [.row 39 1 (LL (mats fs xs tens))])] := by
      have := c177 (a := a) hm (k := k + 13 - xs.length) (by omega) xs.length 0 (by omega) tens rfl
      rw [show k + 13 - xs.length + xs.length + 3 = k + 16 by omega] at this
      exact this
    rw [ite'_nt, c178 (k := k + 14) (by omega)]
    simp only [bindR_s, resO_s, bindL_s]
    rw [e71]
    simp only [bindR_s, resO_s, bindL_s]
    exact l105 (k := k + 15) _ h1 h2 (by omega)
/-- the answers, of those matches that are wanted -/
def ans (p : List Int → Bool) (ib : Bool) (fs xs : List Atom) (q : List Int) : BL := cond ib (((mtc fs xs).filter p).map (proj q)) []
theorem resO_nil26 : resO 39 1 1 false 1 [(false, [RL.nil])] 0 0 = some [] := rfl
theorem resL_nil11 : resL 1 1 false 1 [(false, [RL.nil])] 0 0 = some [] := rfl
/-- impl.rowsOf -/
theorem c107 (h : Qok a fs xs valid ib) (q : List Int) (hq : ∀ v ∈ q, 0 ≤ v ∧ v < 5) (hq3 : q.length ≤ 3) (hk : 2000000 ≤ k) (f : FuncId) (caps : Ovi.Rows) (p : List Int → Bool) (hp : ∀ x ∈ mtc fs xs, ib = true → C (k + 16) f (.d (.list 1 (I1 x)) :: [].append (caps.map fun c : List D => .cap c 0)) = bo (p x)) :
    C (k + 17) 107 [.agg [.d (.list 3 a), .d (.list 2 (A1 fs))], .agg [.d (.list 1 (I1 q)), .d (.list 2 (A1 xs))], .d (.fn f caps)] = some [(false, [.frow 39 1 1 (LL (Lib.compact (sortLists (ans p ib fs xs q))))])] := by
  rw [F107.run, c180 h hk]
  unfold mtr ans
  cases ib with
  | false =>
    simp only [cond_false, bindR_s, resO_nil26, bindL_s]
    exact l107 (k := k + 15) [] q (A1 xs) f caps p (by simp) (by simp) (by simp) hq hq3 (by omega)
  | true =>
    obtain ⟨h1, h2⟩ := mt_short (h.mok rfl)
    simp only [cond_true, bindR_s, resO_s, bindL_s]
    rw [LL_len]
    exact l107 (k := k + 15) (mtc fs xs) q (A1 xs) f caps p (fun x hx => hp x hx rfl) h1 h2 hq hq3 (by omega)
theorem l31' (h : Qok a fs xs valid ib) (q : List Int) (hq : ∀ v ∈ q, 0 ≤ v ∧ v < 5) (hq3 : q.length ≤ 3) (hk : 2000000 ≤ k) : ∃ ws, (bindR (C (k + 17) 105 [.agg [.d (.list 3 a), .d (.list 2 (A1 fs))], .d (.list 2 (A1 xs))]) fun r8 => bindL (resO 39 1 1 false 1 r8 0 0) fun l25 => F31.L6 (k + 17) (C (k + 17)) (k + 17) [] 0 (I1 q) (A1 xs) l25) = some [(false, [.d (.list 1 (LL ws))])] ∧ (∀ z, z ∈ ws ↔ z ∈ ans (fun _ => true) ib fs xs q) ∧ ws.length ≤ 27000 ∧ SSL ws := by
  rw [c105 h hk]
  unfold mtr ans
  cases ib with
  | false =>
    simp only [cond_false, bindR_s, resO_nil26, bindL_s]
    exact l31 (k := k + 15) [] q (A1 xs) (by simp) (by simp) hq hq3 (by omega)
  | true =>
    obtain ⟨h1, h2⟩ := mt_short (h.mok rfl)
    simp only [cond_true, bindR_s, resO_s, bindL_s]
    rw [show (mtc fs xs).filter (fun _ => true) = mtc fs xs from List.filter_eq_self.2 fun _ _ => rfl]
    exact l31 (k := k + 15) (mtc fs xs) q (A1 xs) h1 h2 hq hq3 (by omega)
theorem ans_len (p : List Int → Bool) (hm : ib = true → Mok fs xs) (q : List Int) : (ans p ib fs xs q).length ≤ 27000 ∧ ∀ x ∈ ans p ib fs xs q, x.length = q.length := by
  unfold ans
  cases ib with
  | false => simp
  | true =>
    obtain ⟨h1, h2⟩ := mt_short (hm rfl)
    have hfl : ((mtc fs xs).filter p).length ≤ (mtc fs xs).length := List.length_filter_le _ _
    refine ⟨by rw [cond_true, List.length_map]; omega, fun x hx => ?_⟩
    obtain ⟨b, _, rfl⟩ := List.mem_map.1 hx
    simp [proj]
theorem set_mem' {b : List Int} {i : Nat} {v z : Int} (h : z ∈ b.set i v) : z ∈ b ∨ z = v := List.mem_or_eq_of_mem_set h
theorem fitS_in : ∀ (ts vs b b' : List Int), fitS ts vs b = some b' → ∀ z ∈ b', z ∈ b ∨ z ∈ vs
  | [], _, b, b', h, z, hz => by simp only [fitS] at h; cases h; exact .inl hz
  | t :: ts, [], b, b', h, z, hz => by simp only [fitS] at h; cases h; exact .inl hz
  | t :: ts, v :: vs, b, b', h, z, hz => by
    have go : ∀ b1, fitS ts vs b1 = some b' → (∀ y ∈ b1, y ∈ b ∨ y = v) → z ∈ b ∨ z ∈ v :: vs := fun b1 h1 h2 => by
      rcases fitS_in ts vs b1 b' h1 z hz with h | h
      · rcases h2 z h with h | rfl
        · exact .inl h
        · exact .inr List.mem_cons_self
      · exact .inr (List.mem_cons_of_mem _ h)
    rw [fitS] at h
    split at h
    · split at h
      · exact go b h fun y hy => .inl hy
      · cases h
    · split at h
      · exact go _ h fun y hy => set_mem' hy
      · split at h
        · exact go b h fun y hy => .inl hy
        · cases h
theorem mats_in (fs : List Atom) : ∀ (xs : List Atom) (b c : List Int), c ∈ mats fs xs b → ∀ z ∈ c, z ∈ b ∨ ∃ f ∈ fs, z ∈ f.2
  | [], b, c, h, z, hz => by rw [mats, List.mem_singleton] at h; subst h; exact .inl hz
  | x :: xs, b, c, h, z, hz => by
    rw [mats, List.mem_flatMap] at h
    obtain ⟨f, hf, hc⟩ := h
    cases hb : fitA x f b with
    | none => rw [hb] at hc; simp at hc
    | some b' =>
      rw [hb] at hc
      rcases mats_in fs xs b' c (by simpa using hc) z hz with h | h
      · unfold fitA at hb
        split at hb
        · rcases fitS_in _ _ _ _ hb z h with h | h
          · exact .inl h
          · exact .inr ⟨f, hf, h⟩
        · cases hb
      · exact .inr h
theorem ans_in (p : List Int → Bool) (hI : ∀ x ∈ fs, ∀ z ∈ x.2, inI z) (q : List Int) : ∀ x ∈ ans p ib fs xs q, ∀ z ∈ x, inI z := by
  intro x hx z hz
  unfold ans at hx
  cases ib with
  | false => cases hx
  | true =>
    obtain ⟨b, hb, rfl⟩ := List.mem_map.1 hx
    replace hb := (List.mem_filter.1 hb).1
    unfold mtc at hb
    rcases (ded_mem _ _ _).1 hb with h | h
    · cases h
    · obtain ⟨v, _, rfl⟩ := List.mem_map.1 hz
      rw [List.getD_eq_getElem?_getD]
      cases hg : b[v.toNat]? with
      | none => exact ⟨by decide, by decide⟩
      | some y =>
        rcases mats_in fs xs tens b h y (List.mem_of_getElem? hg) with h | ⟨f, hf, h⟩
        · have : y = 10 := by simpa [tens] using h
          subst this
          exact ⟨by decide, by decide⟩
        · exact hI f hf y h
/-- rows as they come: in strict order, each short, of machine integers -/
structure Good3 (ws : BL) : Prop where
  ss : SSL ws
  len : ws.length ≤ 27000
  short : ∀ x ∈ ws, x.length ≤ 3
  int : ∀ x ∈ ws, ∀ z ∈ x, inI z
theorem qok {a : Ovi.Rows} (ha : Fit Rl (.list 3 a)) {fs xs : List Atom} {q : List Int} {valid : Atom → Bool} {ib : Bool} (hval : ∀ x ∈ xs, valid x = true → (0 ≤ x.1 ∧ x.1 < (a.length : Int)) ∧ (x.2.length : Int) = ar a x.1 ∧ ∀ t ∈ x.2, -10 ≤ t ∧ t ≤ 4) (hv : Valid a xs valid)
    (hib : ib = true → fs.length ≤ 30 ∧ ∀ x ∈ fs, (0 ≤ x.1 ∧ x.1 < (a.length : Int)) ∧ (x.2.length : Int) = ar a x.1) (hinst : ∀ k, 2000000 ≤ k → C (k + 8) 100 [.agg [.d (.list 3 a), .d (.list 2 (A1 fs))]] = bo ib ∧ C (k + 8) 67 [.agg [.d (.list 3 a), .d (.list 2 (A1 fs))]] = bo ib)
    (hal : a.length ≤ 1048576) (hs : terms xs + xs.length ≤ 1048576) (h : qOk valid xs q = true) : Qok a fs xs valid ib ∧ (∀ v ∈ q, 0 ≤ v ∧ v < 5) ∧ q.length ≤ 3 := by
  unfold qOk at h
  simp only [Bool.and_eq_true, decide_eq_true_eq, List.all_eq_true] at h
  obtain ⟨⟨⟨h1, h2⟩, h3⟩, h4, h5⟩ := h
  have hvar : ∀ v ∈ q, isVar xs v := fun v hvm => by
    have := h5 v hvm
    unfold vB at this
    exact @of_decide_eq_true _ (Classical.propDecidable _) this
  refine ⟨⟨hal, hs, hv, by omega, by omega, h3, hinst, fun hb => ?_⟩, fun v hvm => ?_, by omega⟩
  · obtain ⟨g1, g2⟩ := hib hb
    refine ⟨g1, by omega, fun x hx => ⟨(hval x hx (h3 x hx)).2.2, by have := len_terms hx; omega⟩, fun x hx f hf hxf => ?_⟩
    have p1 := (hval x hx (h3 x hx)).2.1
    have p2 := (g2 f hf).2
    rw [← hxf] at p2
    omega
  · obtain ⟨g1, x, hx, hz⟩ := hvar v hvm
    have := (hval x hx (h3 x hx)).2.2 v hz
    omega
theorem resF_nil39 : resF 39 1 1 1 false 1 [(false, [RL.nil])] 0 0 = some [] := rfl
theorem good_nil : Good3 [] := ⟨List.Pairwise.nil, by simp, by simp, by simp⟩
theorem good_ans (p : List Int → Bool) (hm : ib = true → Mok fs xs) (hI : ∀ x ∈ fs, ∀ z ∈ x.2, inI z) (q : List Int) (hq3 : q.length ≤ 3) : Good3 (Lib.compact (sortLists (ans p ib fs xs q))) := by
  obtain ⟨k1, k2⟩ := ans_len p hm q
  have hml : ∀ x, x ∈ Lib.compact (sortLists (ans p ib fs xs q)) ↔ x ∈ ans p ib fs xs q := fun x => by rw [mem_compactL, mem_sortLists]
  have hcl := compactL_len (sortLists (ans p ib fs xs q))
  rw [sortLists_len] at hcl
  exact ⟨ssL_compact _, by omega, fun x hx => by rw [k2 x ((hml x).1 hx)]; exact hq3, fun x hx => ans_in p hI q x ((hml x).1 hx)⟩
/-- both Evaluate answer alike -/
theorem evalB {a : Ovi.Rows} (ha : Fit Rl (.list 3 a)) (fs xs : List Atom) (q : List Int) (hI : ∀ x ∈ fs, ∀ z ∈ x.2, inI z) (hal : a.length ≤ 1048576) (hfs : terms fs + fs.length ≤ 1048576) (hs : terms xs + xs.length ≤ 1048576) (hq : q.length ≤ 1048576) :
    ∃ ws R1 R2, Good3 ws ∧ resL 1 1 false 1 R1 0 0 = some (LL ws) ∧ resF 39 1 1 1 false 1 R2 0 0 = some (LL ws) ∧ ∀ k, 2000000 ≤ k → C (k + 20) 31 [.agg [.d (.list 3 a), .d (.list 2 (A1 fs))], .agg [.d (.list 1 (I1 q)), .d (.list 2 (A1 xs))]] = some R1 ∧ C (k + 20) 32 [.agg [.d (.list 3 a), .d (.list 2 (A1 fs))], .agg [.d (.list 1 (I1 q)), .d (.list 2 (A1 xs))]] = some R2 := by
  obtain ⟨valid, hval, hv⟩ := valid_ex ha xs (fun x hx => by
    have := len_terms hx
    have : (1048576 : Nat) ≤ maxLen := by decide
    omega)
  obtain ⟨ib, hib, hinst⟩ := instB ha fs hI hfs hal
  have e89 : ∀ k, 2000000 ≤ k → C (k + 19) 89 [.d (.list 3 a), .agg [.d (.list 1 (I1 q)), .d (.list 2 (A1 xs))]] = bo (qOk valid xs q) := fun k hk => c89 (k := k + 9) (out := q) hv (by omega) hal hs hq
  have e95 : ∀ k, 2000000 ≤ k → C (k + 19) 95 [.d (.list 3 a), .agg [.d (.list 1 (I1 q)), .d (.list 2 (A1 xs))]] = bo (qOk valid xs q) := fun k hk => c95 (k := k + 9) (out := q) hv (by omega) hal hs hq
  cases hqo : qOk valid xs q with
  | false =>
    refine ⟨[], _, _, good_nil, resL_nil11, resF_nil39, fun k hk => ⟨?_, ?_⟩⟩
    · rw [F31.run, e89 k hk, bB, hqo, ite'_nf]
    · rw [F32.run, e95 k hk, bB, hqo, ite'_nf]
  | true =>
    obtain ⟨hQ, hq5, hq3⟩ := qok ha hval hv hib hinst hal hs hqo
    have hg := good_ans (ib := ib) (xs := xs) (fun _ => true) hQ.mok hI q hq3
    refine ⟨Lib.compact (sortLists (ans (fun _ => true) ib fs xs q)), [(false, [.d (.list 1 (LL (Lib.compact (sortLists (ans (fun _ => true) ib fs xs q)))))])], [(false, [.frow 39 1 1 (LL (Lib.compact (sortLists (ans (fun _ => true) ib fs xs q))))])], hg, resL_d _ _, rfl, fun k hk => ⟨?_, ?_⟩⟩
    · obtain ⟨ws, g1, g2, g3, g4⟩ := l31' (k := k + 2) hQ q hq5 hq3 (by omega)
      have : ws = Lib.compact (sortLists (ans (fun _ => true) ib fs xs q)) := ssL_eq g4 hg.ss fun z => by rw [g2, mem_compactL, mem_sortLists]
      rw [F31.run, e89 k hk, bB, hqo, ite'_nt, ← this]
      exact g1
    · rw [F32.run, e95 k hk, bB, hqo, ite'_nt, c107 (k := k + 2) hQ q hq5 hq3 (by omega) 108 [] (fun _ => true) (fun x _ _ => by
        show C (k + 18) 108 [.d (.list 1 (I1 x))] = _
        rw [F108.run]; rfl)]
      rfl
end Go.Proofs.YthicohakeljdcaaGreat.Q

/-! UKa -/
namespace Go.Proofs.YthicohakeljdcaaGreat.Q
open Go Ovi
variable {k : Nat}
theorem C_prim {k : Nat} {f : FuncId} {p : Args → Option Res} {args : Args} (h : prim f = some p) : C (k + 1) f args = p args := by
  show evCall P hs prim (k + 1) f args = p args
  unfold evCall
  rw [h]
theorem bne_self (n : Int) : (n != n) = false := by simp
/-- heldIntS after the mark -/
theorem c109 {xs ys : Ovi.Rows} {m m' : Int} (h : mkRows stepInt xs m = some (ys, m')) (h0 : 0 ≤ m) (h1 : m' ≤ 4611686018427387904) (hl : ys.length ≤ 1048576) (hk : 2000000 ≤ k) : C (k + 1) 109 [.d (.list 1 ys), .d (.int .i64 m)] = some [(false, [.d (.int .i64 m')])] := by
  have hmax : (1048576 : Nat) ≤ maxLen := by decide
  obtain ⟨κ, q0, q1, q2, q3⟩ := mkRows_chain h
  rw [F109.run]
  have key : ∀ (a i n : Nat), i + a = ys.length → a < n → F109.L2 k (C k) n ys (κ i) (i : Int) = some [(false, [.d (.int .i64 m')])] := by
    intro a
    induction a with
    | zero =>
      intro i n hm hn
      obtain ⟨n, rfl⟩ : ∃ j, n = j + 1 := ⟨n - 1, by omega⟩
      obtain rfl : i = ys.length := by omega
      rw [F109.L2.succ, ite'_f (lt_f (by omega)), q1]
    | succ a ih =>
      intro i n hm hn
      obtain ⟨n, rfl⟩ : ∃ j, n = j + 1 := ⟨n - 1, by omega⟩
      have hi : i < ys.length := by omega
      obtain ⟨r, r', p1, p2, p3⟩ := q3 i hi
      obtain ⟨z, _, rfl, e⟩ := stepInt_some p3
      have b1 := chain_le stepInt_up q3 (Nat.zero_le i) (by omega)
      have b2 := chain_le stepInt_up q3 (show i + 1 ≤ ys.length by omega) (Nat.le_refl _)
      rw [F109.L2.succ, ite'_t (lt_t hi), ite'_t (inR_t hi)]
      simp only [Int.toNat_natCast, cellI_at p2, List.getElem?_cons_zero, Option.bind_some, asI_s, bindI_s]
      rw [ite'_f (bne_self _), wrap_id (by omega) (by omega), wrap_succ (m := ys.length) (by omega) (by omega) (by omega), show ((i : Int) + 1) = ((i + 1 : Nat) : Int) by omega, ← e]
      exact ih (i + 1) n (by omega) (by omega)
  have := key ys.length 0 k (by omega) (by omega)
  rwa [q0] at this
theorem digit (n : Nat) : bytesD [[D.int .u8 (IntKind.u8.wrap (IntKind.i64.wrap ((48 : Int) + ((n : Int)).tmod 10)))]] = some [UInt8.ofNat (48 + n % 10)] := by
  have h1 : ((n : Int)).tmod 10 = ((n % 10 : Nat) : Int) := by
    rw [Int.tmod_eq_emod_of_nonneg (by omega)]; omega
  have h2 : n % 10 < 10 := Nat.mod_lt _ (by decide)
  rw [h1]
  generalize n % 10 = d at h2
  match d, h2 with
  | 0, _ => rfl
  | 1, _ => rfl
  | 2, _ => rfl
  | 3, _ => rfl
  | 4, _ => rfl
  | 5, _ => rfl
  | 6, _ => rfl
  | 7, _ => rfl
  | 8, _ => rfl
  | 9, _ => rfl
theorem l79 (k : Nat) (call : CallF) : ∀ (f n K : Nat) (acc : List UInt8), f < K → n < 10 ^ f → n ≤ 4611686018427387904 → acc.length + f ≤ 1000 → F103.L4 k call K (n : Int) acc = some [(false, [.d (.str (109 :: digs f n acc))])] := by
  intro f
  induction f with
  | zero =>
    intro n K acc hK hn _ hl
    obtain ⟨K, rfl⟩ : ∃ j, K = j + 1 := ⟨K - 1, by omega⟩
    obtain rfl : n = 0 := by simpa using hn
    rw [F103.L4.succ, ite'_f (by decide), ite'_t (fits_t (by omega))]
    rfl
  | succ f ih =>
    intro n K acc hK hn hn2 hl
    obtain ⟨K, rfl⟩ : ∃ j, K = j + 1 := ⟨K - 1, by omega⟩
    by_cases h0 : n = 0
    · subst h0
      rw [F103.L4.succ, ite'_f (by decide), ite'_t (fits_t (by omega))]
      rfl
    · have hd : IntKind.i64.wrap (((n : Int)).tdiv 10) = ((n / 10 : Nat) : Int) := by
        rw [Int.tdiv_eq_ediv_of_nonneg (by omega), wrap_id (by omega) (by omega)]; omega
      rw [F103.L4.succ, ite'_t (by simp only [decide_eq_true_eq]; omega), digit, bindS_s, hd]
      rw [ite'_t (fits_t (by simp only [List.length_cons, List.length_nil]; omega))]
      have h10 : n / 10 < 10 ^ f := by
        rw [Nat.pow_succ] at hn
        exact Nat.div_lt_of_lt_mul (by omega)
      rw [ih (n / 10) K ([UInt8.ofNat (48 + n % 10)] ++ acc) (by omega) h10 (by omega) (by simp only [List.length_append, List.length_cons, List.length_nil]; omega)]
      simp only [digs, if_neg h0, List.singleton_append]
/-- markText -/
theorem e103 (k : Nat) (call : CallF) (m : Int) (h0 : 0 ≤ m) (h1 : m ≤ 4611686018427387904) (hk : 2000 ≤ k) : evFnK P hs call 103 k Tryz.f103 [.d (.int .i64 m)] = some [(false, [.d (.str (mt m))])] := by
  rw [F103.eq]
  by_cases hm : m ≤ 0
  · rw [ite'_t (by simpa using hm)]
    simp only [mt, if_pos hm]
  · rw [ite'_f (by simpa using hm)]
    obtain ⟨n, rfl⟩ : ∃ n : Nat, m = n := ⟨m.toNat, by omega⟩
    rw [l79 k call 64 n k [] (by omega) (Nat.lt_of_le_of_lt (show n ≤ 4611686018427387904 by omega) (by decide)) (by omega) (by simp)]
    simp only [mt, if_neg hm, Int.toNat_natCast]
theorem c103 (m : Int) (h0 : 0 ≤ m) (h1 : m ≤ 4611686018427387904) (hk : 2000 ≤ k) : C (k + 1) 103 [.d (.int .i64 m)] = some [(false, [.d (.str (mt m))])] := (F103.run k m).trans ((F103.eq k (C k) m).symm.trans (e103 k (C k) m h0 h1 hk))
variable {k : Nat}
theorem sum_const {α : Type} (c : Nat) : ∀ l : List α, (l.map fun _ => c).sum = c * l.length
  | [] => rfl
  | x :: r => by simp only [List.map_cons, List.sum_cons, List.length_cons, sum_const c r, Nat.mul_add]; omega
theorem intMark (zs : List Int) (m : Int) : ∃ ys, mkRows stepInt (I1 zs) m = some (ys, m + zs.length) := by
  obtain ⟨ys, h⟩ := mkRows_total (step := stepInt) (c := fun _ => 1) (xs := I1 zs) (fun r hr k => by
    obtain ⟨z, _, rfl⟩ := List.mem_map.1 hr
    exact ⟨_, rfl⟩) m
  refine ⟨ys, ?_⟩
  rw [h, sum_const, I1_len, Nat.one_mul]
theorem relMark {a : Ovi.Rows} (ha : Fit Rl (.list 3 a)) (m : Int) : ∃ ys, mkRows (stepRel mt) a m = some (ys, m + 3 * a.length) := by
  obtain ⟨ys, h⟩ := mkRows_total (step := stepRel mt) (c := fun _ => 3) (xs := a) (fun r hr k => by
    unfold Rl at ha
    simp only [Fit] at ha
    obtain ⟨x0, r0, rfl, h0, hf0⟩ := Fits.cons (ha.2.2 r hr)
    obtain ⟨x1, r1, rfl, h1, hf1⟩ := Fits.cons hf0
    obtain ⟨x2, r2, rfl, h2, hf2⟩ := Fits.cons hf1
    obtain rfl := Fits.nil hf2
    obtain ⟨s, rfl, _⟩ := h0.str
    obtain ⟨z, rfl, _⟩ := h1.int
    obtain ⟨t, rfl⟩ := h2.bool
    exact ⟨[.str (mt k), .int .i64 (k + 1), .bool ((k + 1 + 1) % 3 == 0)], by simp only [stepRel, Option.some.injEq, Prod.mk.injEq, true_and]; omega⟩) m
  refine ⟨ys, ?_⟩
  rw [h, sum_const]
  simp only [Option.some.injEq, Prod.mk.injEq, true_and]
  omega
theorem factMark (xs : List Atom) (m : Int) : ∃ ys, mkRows stepFact (A1 xs) m = some (ys, m + (xs.length + terms xs : Nat)) := by
  obtain ⟨ys, h⟩ := mkRows_total (step := stepFact) (c := fun r => match r with | [_, .list _ l] => 1 + l.length | _ => 0) (xs := A1 xs) (fun r hr k => by
    obtain ⟨x, _, rfl⟩ := List.mem_map.1 hr
    obtain ⟨ys, h⟩ := intMark x.2 (k + 1)
    refine ⟨[.int .i64 k, .list 1 ys], ?_⟩
    simp only [stepFact, h, Option.map_some, I1_len, Option.some.injEq, Prod.mk.injEq, true_and]
    omega) m
  refine ⟨ys, ?_⟩
  rw [h]
  congr 2
  have : ((A1 xs).map fun r => match r with | [_, .list _ l] => 1 + l.length | _ => 0).sum = xs.length + terms xs := by
    clear h
    induction xs with
    | nil => rfl
    | cons x r ih =>
      simp only [A1, List.map_cons, List.sum_cons, List.length_cons, terms, I1_len] at ih ⊢
      omega
  rw [this]
/-- the marks as the machine calls them -/
theorem e17 {a f a' f' : Ovi.Rows} {m1 m2 : Int} (h1 : mkRows (stepRel mt) a 1 = some (a', m1)) (h2 : mkRows stepFact f m1 = some (f', m2)) (hb : m2 ≤ 4611686018427387904) : C (k + 1) 17 [.var 0 0, .d (.bool true), .d (.int .i64 1), .d (.int .i64 ((133 : Nat) : Int)), .d (.list 3 a), .d (.int .i64 ((118 : Nat) : Int)), .d (.list 2 f)] = some [(false, [.row 133 3 a']), (false, [.row 118 2 f']), (false, [.d (.int .i64 m2)])] := by
  rw [C_prim (p := markP true (mkAg (stepInst mt))) rfl]
  have hs : stepInst mt [.list 3 a, .list 2 f] 1 = some ([.list 3 a', .list 2 f'], m2) := by
    simp only [stepInst, h1, Option.bind_some, h2, Option.map_some]
  have hp : parseM [.d (.int .i64 ((133 : Nat) : Int)), .d (.list 3 a), .d (.int .i64 ((118 : Nat) : Int)), .d (.list 2 f)] = some [.row 133 3 a, .row 118 2 f] := rfl
  have hm : mkAg (stepInst mt) [.row 133 3 a, .row 118 2 f] 1 = some ([.row 133 3 a', .row 118 2 f'], m2) := by
    simp only [mkAg, List.map_cons, List.map_nil, toD, hs, Option.map_some, ofD]
  simp only [markP]
  rw [show (true == true && decide ((0 : Int) ≤ 1)) = true from rfl, cond_true, hp]
  simp only [Option.bind_some, hm, decide_eq_true hb, cond_true]
  rfl
theorem dep_rel {a : Ovi.Rows} (ha : Fit Rl (.list 3 a)) : depR 0 a = true := by
  unfold Rl at ha
  simp only [Fit] at ha
  refine List.all_eq_true.2 fun r hr => ?_
  obtain ⟨x0, r0, rfl, h0, hf0⟩ := Fits.cons (ha.2.2 r hr)
  obtain ⟨x1, r1, rfl, h1, hf1⟩ := Fits.cons hf0
  obtain ⟨x2, r2, rfl, h2, hf2⟩ := Fits.cons hf1
  obtain rfl := Fits.nil hf2
  obtain ⟨s, rfl, _⟩ := h0.str
  obtain ⟨z, rfl, _⟩ := h1.int
  obtain ⟨t, rfl⟩ := h2.bool
  rfl
theorem dep_facts (xs : List Atom) : depR 1 (A1 xs) = true := by
  refine List.all_eq_true.2 fun r hr => ?_
  obtain ⟨x, _, rfl⟩ := List.mem_map.1 hr
  simp only [List.all_cons, List.all_nil, Bool.and_true, depD, Bool.true_and, List.all_eq_true]
  intro r hr y hy
  obtain ⟨z, _, rfl⟩ := List.mem_map.1 hr
  simp only [List.mem_singleton] at hy
  subst hy
  rfl
theorem e30 {a f a' f' : Ovi.Rows} {m m1 m2 : Int} (h1 : mkRows stepInt a m = some (a', m1)) (h2 : mkRows stepFact f m1 = some (f', m2)) (h0 : 0 ≤ m) (hb : m2 ≤ 4611686018427387904) : C (k + 1) 30 [.var 0 0, .d (.bool true), .d (.int .i64 m), .d (.int .i64 ((3 : Nat) : Int)), .d (.list 1 a), .d (.int .i64 ((130 : Nat) : Int)), .d (.list 2 f)] = some [(false, [.row 3 1 a']), (false, [.row 130 2 f']), (false, [.d (.int .i64 m2)])] := by
  rw [C_prim (p := markP true (mkAg stepQuery)) rfl]
  have hs : stepQuery [.list 1 a, .list 2 f] m = some ([.list 1 a', .list 2 f'], m2) := by
    simp only [stepQuery, h1, Option.bind_some, h2, Option.map_some]
  have hp : parseM [.d (.int .i64 ((3 : Nat) : Int)), .d (.list 1 a), .d (.int .i64 ((130 : Nat) : Int)), .d (.list 2 f)] = some [.row 3 1 a, .row 130 2 f] := rfl
  have hm : mkAg stepQuery [.row 3 1 a, .row 130 2 f] m = some ([.row 3 1 a', .row 130 2 f'], m2) := by
    simp only [mkAg, List.map_cons, List.map_nil, toD, hs, Option.map_some, ofD]
  simp only [markP]
  rw [show (true == true && decide ((0 : Int) ≤ m)) = true by rw [decide_eq_true h0]; rfl, cond_true, hp]
  simp only [Option.bind_some, hm, decide_eq_true hb, cond_true]
  rfl
theorem dep_ints (zs : List Int) : depR 0 (I1 zs) = true := by
  refine List.all_eq_true.2 fun r hr => ?_
  obtain ⟨x, _, rfl⟩ := List.mem_map.1 hr
  rfl
/-- laws.eqIntSS -/
theorem l33 {k : Nat} (hk : 2000001 ≤ k) {a : Ovi.Rows} (ha : Fit (.list [.list [.int .i64]]) (.list 1 a)) (hs : szR a ≤ 1048576) : ∀ (m i n : Nat), i + m = a.length → m < n → F33.L4 k (C k) n a a (i : Int) = some [(false, [.d (.bool true)])] := by
  have hlen := ha.len
  intro m; induction m with
  | zero =>
    intro i n hm hn
    obtain ⟨n, rfl⟩ : ∃ j, n = j + 1 := ⟨n - 1, by omega⟩
    rw [F33.L4.succ, ite'_f (lt_f (by omega))]
  | succ m ih =>
    intro i n hm hn
    obtain ⟨n, rfl⟩ : ∃ j, n = j + 1 := ⟨n - 1, by omega⟩
    obtain ⟨row, hr, hfr, hdr⟩ := ha.row (i := i) (by omega)
    obtain ⟨d0, rr0, rfl, hd0, hfr0⟩ := Fits.cons hfr
    obtain ⟨x0, rfl, hx0⟩ := hd0.list (n := 1) rfl
    obtain rfl := Fits.nil hfr0
    have hszr := szR_at hr
    rw [F33.L4.succ, ite'_t (lt_t (by omega)), ite'_t (inR_t (by omega))]
    simp only [Int.toNat_natCast, cellI_at hr, cellB_at hr, cellS_at hr, cellL_at hr]
    simp only [List.getElem?_cons_zero, List.getElem?_cons_succ, Option.bind_some, asI_s, asB_s, asS_s, asL_s, bindI_s, bindB_s, bindS_s, bindL_s, bindR_s, resI_s, resB_s, resS_s, resO_s, resF_s, bne_self_eq_false, beq_self_eq_true, Bool.not_true]
    rw [ite'_t (inR_t (by omega))]
    rw [c60 (k := k) (by omega)  hx0 (by simp only [szC, szD] at hszr ⊢; omega)]
    simp only [List.getElem?_cons_zero, List.getElem?_cons_succ, Option.bind_some, asI_s, asB_s, asS_s, asL_s, bindI_s, bindB_s, bindS_s, bindL_s, bindR_s, resI_s, resB_s, resS_s, resO_s, resF_s, bne_self_eq_false, beq_self_eq_true, Bool.not_true]
    rw [ite'_f rfl, wrap_succ (m := a.length) (by omega) (by omega) hlen]
    rw [show ((i : Int) + 1) = ((i + 1 : Nat) : Int) by omega]
    exact ih (i + 1) n (by omega) (by omega)
theorem c33 {k : Nat} (hk : 2000002 ≤ k) {a : Ovi.Rows} (ha : Fit (.list [.list [.int .i64]]) (.list 1 a)) (hs : szD (.list 1 a) ≤ 1048576) : C k 33 [.d (.list 1 a), .d (.list 1 a)] = some [(false, [.d (.bool true)])] := by
  obtain ⟨k, rfl⟩ : ∃ j, k = j + 1 := ⟨k - 1, by omega⟩
  simp only [szD] at hs
  rw [F33.run, ite'_f (bne_f _)]
  exact l33 (k := k) (by omega) ha (by omega) a.length 0 k (by omega) (by omega)
/-! ### the blocks, marked and held -/
theorem lists_fit (B : BL) (h : ∀ b ∈ B, ∀ z ∈ b, inI z) (hl : B.length ≤ maxLen) (hb : ∀ b ∈ B, b.length ≤ maxLen) : Fit (.list [.list [.int .i64]]) (.list 1 (LL B)) := by
  simp only [Fit]
  refine ⟨rfl, by rw [LL_len]; exact hl, fun r hr => ?_⟩
  obtain ⟨b, hb', rfl⟩ := List.mem_map.1 hr
  simp only [Fits, Fit]
  refine ⟨⟨rfl, by rw [I1_len]; exact hb b hb', fun r hr => ?_⟩, trivial⟩
  obtain ⟨z, hz, rfl⟩ := List.mem_map.1 hr
  simp only [Fits, Fit]
  have hz' := h b hb' z hz
  unfold inI at hz'
  refine ⟨⟨trivial, ?_⟩, trivial⟩
  simp only [Lit.wf, IntKind.min, IntKind.max, IntKind.signed, IntKind.bits, Bool.and_eq_true, decide_eq_true_eq]
  simpa using hz'
def tot (B : BL) : Nat := (B.map List.length).sum
theorem lists_sz (B : BL) : szD (.list 1 (LL B)) = B.length + tot B := by
  have hI : ∀ zs : List Int, szR (I1 zs) = 0 := fun zs => by
    induction zs with
    | nil => rfl
    | cons z r ih => simpa [I1, szR, szC, szD] using ih
  simp only [szD, LL_len]
  congr 1
  induction B with
  | nil => rfl
  | cons b r ih =>
    simp only [LL, List.map_cons, szR, szC, szD, tot, List.sum_cons, hI, I1_len] at ih ⊢
    omega
theorem intsMark (B : BL) (m : Int) : ∃ ys, mkRows stepInts (LL B) m = some (ys, m + (tot B : Nat)) := by
  obtain ⟨ys, h⟩ := mkRows_total (step := stepInts) (c := fun r => match r with | [.list _ l] => l.length | _ => 0) (xs := LL B) (fun r hr k => by
    obtain ⟨b, _, rfl⟩ := List.mem_map.1 hr
    obtain ⟨ys, h⟩ := intMark b k
    refine ⟨[.list 1 ys], ?_⟩
    simp only [stepInts, h, Option.map_some, I1_len]) m
  refine ⟨ys, ?_⟩
  rw [h]
  congr 2
  have : ((LL B).map fun r => match r with | [.list _ l] => l.length | _ => 0).sum = tot B := by
    clear h
    unfold tot
    induction B with
    | nil => rfl
    | cons x r ih =>
      simp only [LL, List.map_cons, List.sum_cons, I1_len] at ih ⊢
      omega
  rw [this]
theorem c35 {xs ys : Ovi.Rows} {m m' : Int} (h : mkRows stepInts xs m = some (ys, m')) (h0 : 0 ≤ m) (h1 : m' ≤ 4611686018427387904) (hl : ys.length ≤ 1048576) (hin : ∀ r ∈ xs, ∀ l, r = [.list 1 l] → l.length ≤ 1048576) (hk : 2000000 ≤ k) : C (k + 2) 35 [.d (.list 1 ys), .d (.int .i64 m)] = some [(false, [.d (.int .i64 m')])] := by
  have hmax : (1048576 : Nat) ≤ maxLen := by decide
  obtain ⟨κ, q0, q1, q2, q3⟩ := mkRows_chain h
  rw [F35.run]
  have key : ∀ (a i n : Nat), i + a = ys.length → a < n → F35.L2 (k + 1) (C (k + 1)) n ys (κ i) (i : Int) = some [(false, [.d (.int .i64 m')])] := by
    intro a
    induction a with
    | zero =>
      intro i n hm hn
      obtain ⟨n, rfl⟩ : ∃ j, n = j + 1 := ⟨n - 1, by omega⟩
      obtain rfl : i = ys.length := by omega
      rw [F35.L2.succ, ite'_f (lt_f (by omega)), q1]
    | succ a ih =>
      intro i n hm hn
      obtain ⟨n, rfl⟩ : ∃ j, n = j + 1 := ⟨n - 1, by omega⟩
      have hi : i < ys.length := by omega
      obtain ⟨r, r', p1, p2, p3⟩ := q3 i hi
      obtain ⟨l, l', rfl, hm1, rfl⟩ := stepInts_some p3
      have b1 := chain_le stepInts_up q3 (Nat.zero_le i) (by omega)
      have b2 := chain_le stepInts_up q3 (show i + 1 ≤ ys.length by omega) (Nat.le_refl _)
      have b3 := mkRows_up stepInt_up hm1
      have b4 := hin _ (List.mem_of_getElem? p1) l rfl
      rw [F35.L2.succ, ite'_t (lt_t hi), ite'_t (inR_t hi)]
      simp only [Int.toNat_natCast, cellL_at p2, List.getElem?_cons_zero, Option.bind_some, asL_s, bindL_s]
      rw [c109 hm1 (by omega) (by omega) (by omega) hk]
      simp only [bindR_s, resI_s, bindI_s]
      rw [ite'_f (neg_f (by omega)), wrap_succ (m := ys.length) (by omega) (by omega) (by omega), show ((i : Int) + 1) = ((i + 1 : Nat) : Int) by omega]
      exact ih (i + 1) n (by omega) (by omega)
  have := key ys.length 0 (k + 1) (by omega) (by omega)
  rwa [q0] at this
theorem e34 {a a' : Ovi.Rows} {m : Int} (h1 : mkRows stepInts a 1 = some (a', m)) (hb : m ≤ 4611686018427387904) : C (k + 1) 34 [.var 0 0, .d (.bool false), .d (.int .i64 1), .d (.int .i64 ((39 : Nat) : Int)), .d (.list 1 a)] = some [(false, [.row 39 1 a']), (false, [.d (.int .i64 m)])] := by
  rw [C_prim (p := markP false (mkLs 1 (mkRows stepInts))) rfl]
  have hp : parseM [.d (.int .i64 ((39 : Nat) : Int)), .d (.list 1 a)] = some [.row 39 1 a] := rfl
  have hm : mkLs 1 (mkRows stepInts) [.row 39 1 a] 1 = some ([.row 39 1 a'], m) := by
    simp only [mkLs, show Nat.beq 1 1 = true from rfl, cond_true, h1, Option.map_some]
  simp only [markP]
  rw [show (false == false && decide ((0 : Int) ≤ 1)) = true from rfl, cond_true, hp]
  simp only [Option.bind_some, hm, decide_eq_true hb, cond_true]
  rfl
theorem dep_lists (B : BL) : depR 1 (LL B) = true := by
  refine List.all_eq_true.2 fun r hr => ?_
  obtain ⟨x, _, rfl⟩ := List.mem_map.1 hr
  simp only [List.all_cons, List.all_nil, Bool.and_true, depD, Bool.true_and, List.all_eq_true]
  intro r hr y hy
  obtain ⟨z, _, rfl⟩ := List.mem_map.1 hr
  simp only [List.mem_singleton] at hy
  subst hy
  rfl
end Go.Proofs.YthicohakeljdcaaGreat.Q

/-! UGr -/
namespace Go.Proofs
open Go Ovi Go.RowKit
/-- the first n headers, those that are not dropped -/
def Kp (isn : Nat → Bool) (hs : List Value) : Nat → List Value
  | 0 => []
  | n + 1 => Kp isn hs n ++ (if isn n then [] else [hs.getD n undef])
theorem Kp_len (isn : Nat → Bool) (hs : List Value) : ∀ n, (Kp isn hs n).length ≤ n
  | 0 => Nat.le_refl _
  | n + 1 => by
    have := Kp_len isn hs n
    simp only [Kp, List.length_append]
    split <;> simp <;> omega
theorem Kp_hit {isn : Nat → Bool} {hs : List Value} {n : Nat} (h : isn n = false) : Kp isn hs (n + 1) = Kp isn hs n ++ [hs.getD n undef] := by simp [Kp, h]
theorem Kp_miss {isn : Nat → Bool} {hs : List Value} {n : Nat} (h : isn n = true) : Kp isn hs (n + 1) = Kp isn hs n := by simp [Kp, h]
theorem own_below' {w w' : World} {B e size n : Nat} {v : Value} {xs : List Value} (h : w.ownsRow B e size v n xs) (hb : Below w.heap.size w w') : w'.ownsRow B e size v n xs := by
  obtain ⟨h1, h2⟩ := h
  refine ⟨h1, ?_⟩
  rcases h2 with h2 | ⟨g, cap, cur, k1, k2, k3, k4⟩
  · exact .inl h2
  · exact .inr ⟨g, cap, cur, k1, k2, (hb.block g (lt_of_blk k3)).trans k3, k4⟩
theorem grown_below {B : Nat} {w wr w' : World} (hb : Below B w wr) (hB : B ≤ wr.heap.size) {row : Option Nat} (hr : ∀ b, row = some b → B ≤ b) (hg : wr.grownBy w' row) : Below B w w' :=
  hb.trans ⟨hg.os, hg.tape, hg.output, hg.size, fun k hk => hg.block k (by omega) fun e => by have := hr k e.symm; omega⟩
theorem own_block {w : World} {B e size n : Nat} {v : Value} {xs : List Value} (h : w.ownsRow B e size v n xs) : ∀ b, v.ownBlock = some b → B ≤ b := by
  intro b hb
  rcases h.2 with ⟨rfl, _⟩ | ⟨g, cap, cur, rfl, k2, _⟩
  · cases hb
  · cases hb; exact k2
theorem Tryz.info39 : (Tryz.prog.info? 39).map (fun i => (i.zero, i.size, i.bytes)) = some (some (.slice none 0 0), 1, 24) := by kernel_rfl
set_option maxHeartbeats 4000000 in
set_option maxRecDepth 1000000 in
theorem Tryz.groundRows (b N cap : Nat) (hs : List Value) (isn : Nat → Bool) (w : World) (hlen : hs.length = N) (hcap : N ≤ cap) (hN : N ≤ 1099511627776) (hb : b < w.heap.size) (hcell : ∀ i v, hs[i]? = some v → w.cell? ⟨b, i, none⟩ = some v) (h1 : ∀ v ∈ hs, ∃ A n c, v = .slice A n c)
    (hcall : ∀ (i : Nat) v, hs[i]? = some v → ∀ W, Below w.heap.size w W → Calls Tryz.prog 163 #[v, .func (.func 182) #[] #[]] W fun e w' => e = .returned (.bool (isn i)) ∧ Below W.heap.size W w') :
    Calls Tryz.prog 110 #[.slice (some ⟨b, 0, none⟩) N cap] w fun e w' => ∃ v, e = .returned v ∧ Below w.heap.size w w' ∧ w'.ownsRow w.heap.size 39 1 v (Kp isn hs N).length (Kp isn hs N) := by
  obtain ⟨i0, hi, hz0, hz1, hz2⟩ := info_parts Tryz.info39
  have HC : Aside (∀ (i : Nat) v, hs[i]? = some v → ∀ W, Below w.heap.size w W → Calls Tryz.prog 163 #[v, .func (.func 182) #[] #[]] W fun e w' => e = .returned (.bool (isn i)) ∧ Below W.heap.size W w') := hcall
  have HX : Aside (∀ i v, hs[i]? = some v → w.cell? ⟨b, i, none⟩ = some v) := hcell
  clear hcall hcell
  go_enter Tryz.func110, Tryz.ntmps110
  go_wp2
  go_loopg [3, 5, 9] N (fun gk s3 s5 s9 wr => ∃ i : Nat, i ≤ N ∧ N - i ≤ gk ∧ s9 = .int .i64 i ∧ wr.ownsRow w.heap.size 39 1 s3 (Kp isn hs i).length (Kp isn hs i) ∧ Below w.heap.size w wr)
  case atStart =>
    refine ⟨0, Nat.zero_le _, by omega, rfl, ⟨rfl, .inr ⟨w.heap.size, 0, #[], rfl, Nat.le_refl _, ?_, Nat.le_refl _, Nat.zero_le _, rfl, rfl⟩⟩, (Below.refl _ w).alloc (Nat.le_refl _) _⟩
    exact heap_alloc_new w _
  case round =>
    obtain ⟨i, hi1, hg, rfl, hown, hbw⟩ := hrel
    by_cases hlt : i < N
    · have hv : hs[i]? = some (hs.getD i undef) := by rw [List.getD_eq_getElem?_getD, List.getElem?_eq_getElem (by omega)]; rfl
      have hcx : wr.cell? ⟨b, i, none⟩ = some (hs.getD i undef) := (hbw.cell (by exact hb)).trans (HX.out i _ hv)
      have hcl := HC.out i _ hv wr hbw
      have hbr : w.heap.size ≤ wr.heap.size := hbw.size
      have hKl := Kp_len isn hs i
      have KH : Aside (isn i = false → Kp isn hs (i + 1) = Kp isn hs i ++ [hs.getD i undef]) := Kp_hit
      have KM : Aside (isn i = true → Kp isn hs (i + 1) = Kp isn hs i) := Kp_miss
      obtain ⟨A, n1, c1, hvs⟩ := h1 _ (List.mem_of_getElem? hv)
      rw [hvs] at hcx hcl KH
      clear hvs hv h1 HC HX
      generalize hK2 : Kp isn hs (i + 1) = K2 at KH KM
      have HK2 : Hid (Kp isn hs (i + 1) = K2) := hK2
      clear hK2
      generalize hK1 : Kp isn hs i = K1 at *
      have HK : Hid (Kp isn hs i = K1) := hK1
      clear hK1
      go_wp2_with (first
        | (go_at_call 163; refine hcl.mono ?_; rintro e w1 ⟨rfl, hb1⟩; have hown1 := own_below' hown hb1; have hbw1 := hbw.trans (hb1.mono hbr); have hbr1 : w.heap.size ≤ w1.heap.size := Nat.le_trans hbr hb1.size; clear hown hbw hcl hcx hb1)
        | (at_builtin; refine wpList_append_own _ rfl _ _ 56 rfl w.heap.size 39 i0 (.slice none 0 0) 1 24 Tryz.underlying56 hi hz0 hz1 hz2 rfl (by decide) _ _ _ rfl (hown1.alloc _) ⟨w1.heap.size, 0, none⟩ 1 1 [.slice A n1 c1] rfl rfl ?c1 ?c2 ?c3 ?c4 ?c5 ?_))
      case c1 =>
        intro j u hj
        match j, hj with
        | 0, hj => simp at hj; subst hj; simp [Addr.add]
      case c2 => intro u hu; simp at hu; subst hu; rfl
      case c3 => unfold maxLen; omega
      case c4 => omega
      case c5 => simp; omega
      · intro v' w2 hown' hgrow _
        have hno : (!isn i) = true := by assumption
        have e2 := KH.out (by simpa using hno)
        have hb2 : Below w.heap.size w w2 := grown_below (hbw1.alloc hbr1 _) (by simp; omega) (own_block hown1) hgrow
        have hown2 : w2.ownsRow w.heap.size 39 1 v' K2.length K2 := by rw [e2]; simpa using hown'
        clear hown' hgrow hown1 hbw1 e2
        go_wp2
        go_roundg (N - i - 1)
        case measure => omega
        case rel => exact ⟨i + 1, by omega, by omega, by go_num, by rw [HK2.out]; exact hown2, hb2⟩
      · have hno : (!isn i) = false := by assumption
        have e2 := KM.out (by simpa using hno)
        go_roundg (N - i - 1)
        case measure => omega
        case rel => exact ⟨i + 1, by omega, by omega, by go_num, by rw [HK2.out, e2]; exact hown1, hbw1⟩
    · obtain rfl : i = N := by omega
      clear HC HX h1
      go_wp2
      go_ret
      exact ⟨_, rfl, hbw, hown⟩
end Go.Proofs

/-! UGs -/
namespace Go.Proofs.YthicohakeljdcaaGreat.Q
open Go Ovi Go.RowKit Go.Proofs
variable {k : Nat}
theorem ok : progOk Tryz.prog = true := by kernel_rfl
theorem mixed : Tryz.prog.follows .mixedOrders = true := by kernel_rfl
theorem bare (k : Nat) : Sound Tryz.prog noG (C0 k) := evCall_ok (drawSound mixed) (okProg ok) (sound_none _ _) k
theorem n182 (z : Int) : C0 (k + 1) 182 [.d (.int .i64 z)] = some [(false, [.d (.bool (neg z))])] := by
  have h : C0 (k + 1) 182 [.d (.int .i64 z)] = evFnK P hs (C0 k) 182 k Tryz.f182 [.d (.int .i64 z)] := by kernel_rfl
  rw [h]
  have h2 : evFnK P hs (C0 k) 182 k Tryz.f182 [.d (.int .i64 z)] = some [(false, [.d (.bool (decide (z < 0)))])] := by kernel_rfl
  exact h2
noncomputable def N220 (k n : Nat) (zs : Ovi.Rows) (len i : Int) : Option Res := loopFn P hs (C0 k) 220 k Tryz.f220 [1, 0, 1, 0] [] n [(0, AV.d (D.list 1 zs)), (1, AV.d (D.fn 182 [])), (7, AV.d (D.int IntKind.i64 len)), (8, AV.d (D.int IntKind.i64 i))] []
theorem N220.succ (k n : Nat) (zs : Ovi.Rows) (len i : Int) : N220 k (n + 1) zs len i = ite' (decide (i < len)) (ite' (inR i (List.length zs)) (bindI (cellI IntKind.i64 zs i.toNat 0) fun n11 => bindR (C0 k 182 [AV.d (D.int IntKind.i64 n11)]) fun r12 => bindB (resB 1 false 1 r12 0 0) fun b13 => ite' (b13) (some ([(false, [RL.d (D.int IntKind.i64 i)])])) (N220 k n zs len (IntKind.i64.wrap (i + (1 : Int))))) (none)) (some ([(false, [RL.d (D.int IntKind.i64 (-1 : Int))])])) := by kernel_rfl
theorem n163 (zs : List Int) (hk : zs.length < k) (hz : zs.length ≤ maxLen) : C0 (k + 3) 163 [.d (.list 1 (I1 zs)), .d (.fn 182 [])] = some [(false, [.d (.bool (zs.any neg))])] := by
  have h1 : C0 (k + 3) 163 [.d (.list 1 (I1 zs)), .d (.fn 182 [])] = bindR (C0 (k + 2) 220 [.d (.list 1 (I1 zs)), .d (.fn 182 [])]) fun r5 => bindI (resI IntKind.i64 1 false 1 r5 0 0) fun n6 => some ([(false, [RL.d (D.bool (decide (n6 ≥ (0 : Int))))])]) := by kernel_rfl
  have h2 : C0 (k + 2) 220 [.d (.list 1 (I1 zs)), .d (.fn 182 [])] = N220 (k + 1) (k + 1) (I1 zs) ((List.length (I1 zs) : Nat) : Int) 0 := by kernel_rfl
  rw [h1, h2, I1_len]
  have := loop_find (xs := zs) (L := fun n i => N220 (k + 1) n (I1 zs) (zs.length : Int) i) (stop := fun _ x => neg x) (hit := fun i => some [(false, [.d (.int .i64 (i : Int))])]) (fin := some [(false, [.d (.int .i64 (-1))])])
    (fun n i x hx => by
      have hi := (List.getElem?_eq_some_iff.1 hx).1
      rw [N220.succ, I1_len, ite'_t (lt_t hi), ite'_t (inR_t hi)]
      simp only [Int.toNat_natCast, cellI_at (I1_get' hx), List.getElem?_cons_zero, Option.bind_some, asI_s, bindI_s]
      rw [next_i hi hz, n182, bindR_s, resB_s, bindB_s]; rfl)
    (fun n => by rw [N220.succ, ite'_f (lt_f (by omega))]) (k + 1) (by omega)
  rcases this with ⟨i, x, hx, hst, e⟩ | ⟨hst, e⟩
  · rw [show N220 (k + 1) (k + 1) (I1 zs) (zs.length : Int) 0 = _ from e]
    simp only [bindR_s, resI_s, bindI_s]
    rw [List.any_eq_true.2 ⟨x, List.mem_of_getElem? hx, hst⟩]
    simp
  · rw [show N220 (k + 1) (k + 1) (I1 zs) (zs.length : Int) 0 = _ from e]
    simp only [bindR_s, resI_s, bindI_s]
    rw [List.any_eq_false.2 (fun x hx => ?_)]
    · rfl
    · obtain ⟨i, hi⟩ := List.mem_iff_getElem?.1 hx
      simpa using hst i x hi
theorem n110 : evCall Tryz.prog hs (fun _ => none) 8 110 [.d (.list 1 [])] = some [(false, [.row 39 1 []])] := by kernel_rfl
theorem Kp_stays (isn : Nat → Bool) (hs : List Value) : ∀ n, Kp isn hs n = (stays isn n).map fun i => hs.getD i undef
  | 0 => rfl
  | n + 1 => by
    unfold stays
    rw [List.range_succ, List.filter_append, List.map_append, Kp, Kp_stays isn hs n]
    congr 1
    cases h : isn n <;> simp [h]
theorem groundOk : PrimOk Tryz.prog noG 110 (groundGP 39) where
  known := ⟨Tryz.f110, Tryz.func110, rfl, by kernel_rfl⟩
  plain := fun args r hr => by
    obtain ⟨⟨e0, l⟩, hra, hr⟩ := Option.bind_eq_some_iff.1 hr
    obtain ⟨_, _, rfl⟩ := rowsArg_isRaw hra
    exact plain_raw'
  mark := fun b k xs r hr => by
    obtain ⟨q, h1, _⟩ := Option.bind_eq_some_iff.1 hr
    obtain ⟨e, xs', h2⟩ := rowsArg_isRaw h1
    cases h2
  raw := fun k e sz xs rest r hr e' he => by
    obtain ⟨⟨e0, l⟩, hra, hr2⟩ := Option.bind_eq_some_iff.1 hr
    obtain ⟨rfl, rfl, rfl, h4, hlen, hlz⟩ := rowsArg_some hra
    simp only at h4 hlen hlz
    subst he h4
    simp only [] at hr2
    clear hr
    cases hb39 : Nat.beq e0 39 with
    | false => rw [hb39] at hr2; cases hr2
    | true =>
    obtain rfl := Nat.eq_of_beq_eq_true hb39
    rw [hb39] at hr2
    cases hr2
    have hmax : (1099511627776 : Nat) ≤ maxLen := by decide
    refine Or.inr ⟨1, LL (grnd l), _, rfl, fun h => ?_, fun w S T mo u vs hS hT hrow hl => ?_⟩
    · have : l = [] := by simpa [LL] using h
      subst this; rfl
    obtain rfl := leaves_nil hl
    simp only [Array.append_empty]
    cases mo with
    | none =>
      obtain ⟨_, ⟨_, A, rfl⟩, hn⟩ := hrow
      have hz : l = [] := by simpa [LL] using hn
      subst hz
      refine ((bare 8).plain 110 _ _ n110 w S T #[.slice A 0 0] hS hT ⟨rfl, fun j a ha => ?_⟩ trivial).mono fun e w' ⟨v, S', mr, he, hb, hs1, _, hr, _⟩ => ?_
      · cases j with
        | zero => cases ha; exact ⟨_, rfl, RD.nil A 1⟩
        | succ j => simp at ha
      · obtain ⟨⟨us, h1, h2, h3⟩, _⟩ := hr
        obtain ⟨u, hu, hone⟩ := h3 0 _ rfl
        simp only [List.length_cons, List.length_nil] at h2
        obtain ⟨u', rfl⟩ := List.length_eq_one_iff.1 h2
        simp only [List.getElem?_cons_zero, Option.some.injEq] at hu
        subst hu
        obtain ⟨x, hx, hrl⟩ := hone
        cases hx
        obtain ⟨z1, z2, z3⟩ : rowC w' S' T w.heap.size (mr 0 0) 39 1 [] u' := hrl
        refine ⟨u', mr 0 0, by rw [he, h1], hb, fun b' hb' => ?_, ⟨z1, z2, ?_⟩, fun b cur b' cur' hb0 => by cases hb0⟩
        · rw [hb'] at z3; exact z3.1
        · cases hm : mr 0 0 with
          | none => rfl
          | some b' =>
            rw [hm] at z3
            obtain ⟨y1, y2, cur, y3, y4, y5⟩ := z3
            exact ⟨Nat.zero_le _, fun h => y2 (hs1 _ h), cur, y3, by simp [LL, grnd], fun i c x hx => by simp [LL, grnd, cellD] at hx⟩
    | some b =>
      obtain ⟨_, ⟨cap, cur, rfl, hc, h1, h2, h3⟩, _, hnS, cur', hc', h5, h6⟩ := hrow
      rw [LL_len] at *
      rw [hc] at hc'
      cases hc'
      have hblk : b < w.heap.size := lt_of_blk hc
      have h1 : l.length ≤ cap := h1
      have h5' : l.length * 1 ≤ cur.size := h5
      have hcell : ∀ i zs, l[i]? = some zs → ∃ v, cur[i]? = some v ∧ RD w S T v (.list 1 (I1 zs)) := fun i zs hz => by
        obtain ⟨_, v, hv, hrd⟩ := h6 i 0 _ (LL_at hz)
        rw [Nat.mul_one, Nat.add_zero] at hv
        exact ⟨v, hv, hrd⟩
      let hs0 : List Value := cur.toList.take l.length
      have hhs : ∀ i, i < l.length → hs0[i]? = cur[i]? := fun i hi => by
        show (cur.toList.take l.length)[i]? = _
        rw [List.getElem?_take_of_lt hi, Array.getElem?_toList]
      have hhl : hs0.length = l.length := by
        show (cur.toList.take l.length).length = _
        have hcl : cur.toList.length = cur.size := Array.length_toList
        rw [List.length_take]
        omega
      have hat : ∀ i v, hs0[i]? = some v → ∃ zs, l[i]? = some zs ∧ cur[i]? = some v ∧ RD w S T v (.list 1 (I1 zs)) := fun i v hv => by
        have hi : i < l.length := by rw [← hhl]; exact (List.getElem?_eq_some_iff.1 hv).1
        obtain ⟨v', hv', hr'⟩ := hcell i _ (List.getElem?_eq_getElem hi)
        rw [hhs i hi] at hv
        rw [hv] at hv'
        cases hv'
        exact ⟨_, List.getElem?_eq_getElem hi, hv, hr'⟩
      have hcall := Tryz.groundRows b l.length cap hs0 (fun i => (l.getD i []).any neg) w hhl h1 hlen hblk (fun i v hv => by
          obtain ⟨zs, _, hv', _⟩ := hat i v hv
          simpa [World.cell?, hc] using hv') (fun v hv => by
          obtain ⟨i, hi⟩ := List.mem_iff_getElem?.1 hv
          obtain ⟨zs, _, _, hr'⟩ := hat i v hi
          obtain ⟨A, c, hv', _⟩ : RI w S v zs := RD.ri hr'
          exact ⟨A, _, c, hv'⟩) (fun i v hv W hW => by
          obtain ⟨zs, hz, _, hr'⟩ := hat i v hv
          have hzl := hlz _ (List.mem_of_getElem? hz)
          have he := n163 (k := zs.length + 1) zs (by omega) (by omega)
          have hg : l.getD i [] = zs := by rw [List.getD_eq_getElem?_getD, hz]; rfl
          rw [hg]
          refine ((bare _).plain 163 _ _ he W S (fun _ => False) #[v, .func (.func 182) #[] #[]] (fun k hk => Nat.lt_of_lt_of_le (hS k hk) hW.size) (fun _ h => h.elim) ⟨rfl, fun j a ha => ?_⟩ trivial).mono fun e w' ⟨v', S', mr, he', hb', _, _, hr, _⟩ => ?_
          · match j, ha with
            | 0, ha =>
              cases ha
              have hx : RD W S T v (.list 1 (I1 zs)) := by
                obtain ⟨A, c, rfl, h⟩ : RI w S v zs := RD.ri hr'
                exact RI.rd (RI.stab ⟨A, c, rfl, h⟩ fun k hk => hW.block k (hS k hk))
              exact ⟨v, rfl, hx.noFn rfl⟩
            | 1, ha => cases ha; exact ⟨_, rfl, RD.fn 182 #[] [] (fun _ _ => undef) rfl (fun j xs h => by simp at h) (fun j c x h => by simp [cellD] at h)⟩
            | j + 2, ha => simp at ha
          · obtain ⟨⟨us, g1, g2, g3⟩, _⟩ := hr
            obtain ⟨u, hu, hone⟩ := g3 0 _ rfl
            simp only [List.length_cons, List.length_nil] at g2
            obtain ⟨u', rfl⟩ := List.length_eq_one_iff.1 g2
            simp only [List.getElem?_cons_zero, Option.some.injEq] at hu
            subst hu
            obtain ⟨x, hx, hrl⟩ := hone
            cases hx
            cases hrl
            exact ⟨by rw [he', g1], hb'⟩)
      rw [Kp_stays] at hcall
      refine hcall.mono fun ex w' ⟨v, he, hb, hown⟩ => ?_
      have hgl : (grnd l).length = (stays (fun i => (l.getD i []).any neg) l.length).length := by rw [grnd_eq, List.length_map]
      generalize hI : stays (fun i => (l.getD i []).any neg) l.length = I at hown hgl
      have hIn : I.Nodup := by rw [← hI]; exact stays_nodup _ _
      have hIl : ∀ i ∈ I, i < l.length := fun i hi => by rw [← hI] at hi; exact stays_lt hi
      have hy : ∀ j i, I[j]? = some i → (grnd l)[j]? = l[i]? := fun j i hj => by
        have := hIl i (List.mem_of_getElem? hj)
        rw [grnd_eq, hI, List.getElem?_map, hj, List.getElem?_eq_getElem this]
        simp [List.getD_eq_getElem?_getD, this]
      rw [List.length_map] at hown
      obtain ⟨_, hown⟩ := hown
      rcases hown with ⟨rfl, h0⟩ | ⟨g, cap2, cur2, rfl, k2, k3, k4, k5, k6, k7⟩
      · have h00 : grnd l = [] := List.eq_nil_of_length_eq_zero (by omega)
        exact ⟨_, none, he, hb, (fun b' hb' => by cases hb'), ⟨LL_rows _, ⟨by rw [h00]; rfl, none, rfl⟩, by rw [h00]; rfl⟩, fun b0 cur0 b' cur' _ hb' => by cases hb'⟩
      · have hcur2 : ∀ j i, I[j]? = some i → cur2[j]? = cur[i]? := fun j i hj => by
          have hjl := (List.getElem?_eq_some_iff.1 hj).1
          have hi := hIl i (List.mem_of_getElem? hj)
          have := congrArg (fun z : List Value => z[j]?) k7
          simp only [Nat.mul_one] at this
          rw [List.getElem?_take_of_lt (by omega), Array.getElem?_toList, List.getElem?_map, hj] at this
          rw [this, ← hhs i hi, List.getElem?_eq_getElem (by omega)]
          simp [List.getD_eq_getElem?_getD, List.getElem?_eq_getElem (show i < hs0.length by omega)]
        have hidx : ∀ j, j < (grnd l).length → ∃ i, I[j]? = some i := fun j hj => ⟨_, List.getElem?_eq_getElem (by omega)⟩
        refine ⟨_, some g, he, hb, fun b' hb' => by cases hb'; exact k2, ⟨LL_rows _, ?_, Nat.zero_le _, fun h => by have := hS g h; omega, cur2, k3, by rw [LL_len, hgl]; omega, fun j c x hx => ?_⟩, ?_⟩
        · rw [LL_len, hgl]
          exact ⟨cap2, cur2, rfl, k3, k4, k5, k6⟩
        · obtain ⟨rfl, zs, hz, rfl⟩ := LL_cell hx
          obtain ⟨i, hi⟩ := hidx j (List.getElem?_eq_some_iff.1 hz).1
          rw [hy j i hi] at hz
          obtain ⟨v0, hv0, hr0⟩ := hcell i zs hz
          refine ⟨rfl, v0, by rw [Nat.mul_one, Nat.add_zero, hcur2 j i hi]; exact hv0, ?_⟩
          exact hr0.mono (fun k hk => hb.block k (hS k hk)) (fun k hk => hb.block k (hT k hk)) (fun _ h => h) fun _ h => h
        · intro b0 cur0 b1 cur1 hb0 hb1 hc0 hc1
          cases hb0
          cases hb1
          rw [hc] at hc0
          cases hc0
          rw [k3] at hc1
          cases hc1
          refine ⟨fun j => I.getD j 0, fun j j' hj hj' he => ?_, fun j hj c x hx => ?_⟩
          · rw [LL_len] at hj hj'
            obtain ⟨i, hi⟩ := hidx j hj
            obtain ⟨i', hi'⟩ := hidx j' hj'
            simp only [List.getD_eq_getElem?_getD, hi, hi', Option.getD_some] at he
            subst he
            exact (List.getElem?_inj (by omega) hIn).1 (hi.trans hi'.symm)
          · obtain ⟨rfl, zs, hz, rfl⟩ := LL_cell hx
            rw [LL_len] at hj
            obtain ⟨i, hi⟩ := hidx j hj
            simp only [List.getD_eq_getElem?_getD, hi, Option.getD_some]
            rw [hy j i hi] at hz
            exact ⟨LL_at hz, .inl (by rw [Nat.mul_one, Nat.add_zero, Nat.mul_one, Nat.add_zero]; exact hcur2 j i hi)⟩
end Go.Proofs.YthicohakeljdcaaGreat.Q

/-! UWa -/
namespace Go.Proofs
open Go.Shelf Go.RowKit Go.Lib Ovi
set_option maxHeartbeats 4000000 in
set_option maxRecDepth 1000000 in
theorem Tryz.mIntS : ListC Tryz.prog 62 1 (mkRows stepInt) := by
  intro w v xs B n k xs' k' hd hf hr hm hk hk2 hB
  rcases Fo.rows hd hf hr with ⟨rfl, A, cap, rfl⟩ | ⟨b, cap, e, g, rfl, hle, hcap, hBb, hgB, hrow⟩
  · cases hm
    go_enter Tryz.func62, Tryz.ntmps62
    go_wp2
    go_loopg [1, 5] 0 (fun g s1 s5 wr => s1 = .int .i64 k ∧ s5 = .int .i64 0 ∧ wr = w)
    case atStart => exact ⟨rfl, rfl, rfl⟩
    case round =>
      obtain ⟨rfl, rfl, rfl⟩ := hrel
      go_wp2
      go_ret
      exact ⟨rfl, Ovi.But.refl _ _, hr, _, hd, hf⟩
  · have hcap' := hcap
    unfold maxLen at hcap'
    have hl := (mkRows_up stepInt_up hm).2
    generalize hN : xs.length = N at *
    go_enter Tryz.func62, Tryz.ntmps62
    go_wp2
    go_loopg [1, 5] N (fun gk s1 s5 wr => ∃ (i : Nat) (ys : Ovi.Rows) (k1 : Int), i ≤ N ∧ N - i ≤ gk ∧ s5 = .int .i64 i ∧ s1 = .int .i64 k1 ∧ mkN stepInt i xs k = some (ys, k1) ∧ Ovi.But B w wr ∧ RowG wr NT b cap e 1 ys g)
    case atStart => exact ⟨0, xs, k, by omega, by omega, rfl, rfl, rfl, Ovi.But.refl _ _, hrow⟩
    case round =>
      obtain ⟨i, ys, k1, hi, hg, rfl, rfl, hmk, hbut0, hrow0⟩ := hrel
      by_cases hlt : i < N
      · obtain ⟨r, r', k2, hyr, hst, hmk2, b1, b2, b3, _⟩ := mkN_next stepInt_up hm hmk (by omega)
        obtain ⟨z0, rfl, rfl, rfl⟩ := stepInt_some hst
        have hx0_0 : cellD ys i 0 = some (.int .i64 z0) := by simp [cellD, hyr]
        obtain ⟨u0, hc0, hf0, _⟩ := hrow0.at hx0_0
        have hrow1 := hrow0.set (fun h => h) hx0_0 (v := .int .i64 k1) (d := .int .i64 k1) rfl (.int _ _)
        have hbut1 : Ovi.But B w ((wr).setCell ⟨b, i * 1 + 0, none⟩ (.int .i64 k1)) := hbut0.trans (Ovi.But.setCell hBb)
        simp only [Nat.mul_one, Nat.add_zero] at hc0 hf0 hrow1 hbut1
        go_wp2
        go_roundg (N - i - 1)
        case measure => omega
        case rel => exact ⟨i + 1, _, (k1 + 1), by omega, by omega, by go_num, by first | rfl | go_num, hmk2, hbut1, by rw [setD_at hyr] at hrow1; simpa using hrow1⟩
      · obtain rfl : i = N := by omega
        go_wp2
        go_ret
        rw [← hN] at hmk
        have he : some (ys, k1) = some (xs', k') := hmk.symm.trans hm
        cases he
        obtain ⟨q1, q2⟩ := hrow0.forest hcap hBb hgB
        rw [hl] at q1 q2
        exact ⟨rfl, hbut0, q1, q2⟩
set_option maxHeartbeats 4000000 in
set_option maxRecDepth 1000000 in
theorem Tryz.mFactS : ListC Tryz.prog 77 2 (mkRows stepFact) := by
  intro w v xs B n k xs' k' hd hf hr hm hk hk2 hB
  rcases Fo.rows hd hf hr with ⟨rfl, A, cap, rfl⟩ | ⟨b, cap, e, g, rfl, hle, hcap, hBb, hgB, hrow⟩
  · cases hm
    go_enter Tryz.func77, Tryz.ntmps77
    go_wp2
    go_loopg [1, 5] 0 (fun g s1 s5 wr => s1 = .int .i64 k ∧ s5 = .int .i64 0 ∧ wr = w)
    case atStart => exact ⟨rfl, rfl, rfl⟩
    case round =>
      obtain ⟨rfl, rfl, rfl⟩ := hrel
      go_wp2
      go_ret
      exact ⟨rfl, Ovi.But.refl _ _, hr, _, hd, hf⟩
  · have hcap' := hcap
    unfold maxLen at hcap'
    have hl := (mkRows_up stepFact_up hm).2
    generalize hN : xs.length = N at *
    go_enter Tryz.func77, Tryz.ntmps77
    go_wp2
    go_loopg [1, 5] N (fun gk s1 s5 wr => ∃ (i : Nat) (ys : Ovi.Rows) (k1 : Int), i ≤ N ∧ N - i ≤ gk ∧ s5 = .int .i64 i ∧ s1 = .int .i64 k1 ∧ mkN stepFact i xs k = some (ys, k1) ∧ Ovi.But B w wr ∧ RowG wr NT b cap e 2 ys g)
    case atStart => exact ⟨0, xs, k, by omega, by omega, rfl, rfl, rfl, Ovi.But.refl _ _, hrow⟩
    case round =>
      obtain ⟨i, ys, k1, hi, hg, rfl, rfl, hmk, hbut0, hrow0⟩ := hrel
      by_cases hlt : i < N
      · obtain ⟨r, r', k2, hyr, hst, hmk2, b1, b2, b3, _⟩ := mkN_next stepFact_up hm hmk (by omega)
        obtain ⟨z0, l1, l1', rfl, hl1, rfl⟩ := stepFact_some hst
        have hx0_0 : cellD ys i 0 = some (.int .i64 z0) := by simp [cellD, hyr]
        have hx1_0 : cellD ys i 1 = some (.list 1 l1) := by simp [cellD, hyr]
        have hup1 := (mkRows_up stepInt_up hl1).1
        obtain ⟨u0, hc0, hf0, _⟩ := hrow0.at hx0_0
        have hrow1 := hrow0.set (fun h => h) hx0_0 (v := .int .i64 k1) (d := .int .i64 k1) rfl (.int _ _)
        have hbut1 : Ovi.But B w ((wr).setCell ⟨b, i * 2 + 0, none⟩ (.int .i64 k1)) := hbut0.trans (Ovi.But.setCell hBb)
        have hx1_1 := setD_other (d := .int .i64 k1) hx1_0 (by decide : 1 ≠ 0)
        obtain ⟨u1, hc1, hf1, hr1, n1, hd1, ho1⟩ := hrow1.at hx1_1
        have hglt1 : ∀ j c' k, g j c' k → k < ((wr).setCell ⟨b, i * 2 + 0, none⟩ (.int .i64 k1)).heap.size := fun j c' k hk => Nat.lt_of_lt_of_le (hB k (hgB j c' k hk)) hbut1.size
        have hcall1 := Tryz.mIntS _ u1 l1 (g i 1) n1 (k1 + 1) l1' k2 hd1 ho1 hr1 hl1 (by omega) (by omega) (fun k hk => hglt1 i 1 k hk)
        simp only [Nat.mul_one, Nat.add_zero] at hc0 hf0 hrow1 hbut1 hc1 hf1 hcall1 hglt1
        go_wp2_with (
          go_at_call 62
          refine hcall1.mono ?_
          rintro ex1 w1 ⟨rfl, hbc1, hrr1, nn1, hdd1, hoo1⟩
          have hrow2 := hrow1.call (fun k hk => hk.elim) hx1_1 (by omega) hc1 hbc1 hglt1 hrr1 hdd1 hoo1
          have hbut2 := hbut1.trans (hbc1.mono fun k hk => hgB i 1 k hk))
        go_roundg (N - i - 1)
        case measure => omega
        case rel => exact ⟨i + 1, _, k2, by omega, by omega, by go_num, by first | rfl | go_num, hmk2, hbut2, by rw [setD_at hyr, setD_at (set_at hyr)] at hrow2; simpa using hrow2⟩
      · obtain rfl : i = N := by omega
        go_wp2
        go_ret
        rw [← hN] at hmk
        have he : some (ys, k1) = some (xs', k') := hmk.symm.trans hm
        cases he
        obtain ⟨q1, q2⟩ := hrow0.forest hcap hBb hgB
        rw [hl] at q1 q2
        exact ⟨rfl, hbut0, q1, q2⟩
set_option maxHeartbeats 4000000 in
set_option maxRecDepth 1000000 in
theorem Tryz.mAtomS : ListC Tryz.prog 104 2 (mkRows stepFact) := by
  intro w v xs B n k xs' k' hd hf hr hm hk hk2 hB
  rcases Fo.rows hd hf hr with ⟨rfl, A, cap, rfl⟩ | ⟨b, cap, e, g, rfl, hle, hcap, hBb, hgB, hrow⟩
  · cases hm
    go_enter Tryz.func104, Tryz.ntmps104
    go_wp2
    go_loopg [1, 5] 0 (fun g s1 s5 wr => s1 = .int .i64 k ∧ s5 = .int .i64 0 ∧ wr = w)
    case atStart => exact ⟨rfl, rfl, rfl⟩
    case round =>
      obtain ⟨rfl, rfl, rfl⟩ := hrel
      go_wp2
      go_ret
      exact ⟨rfl, Ovi.But.refl _ _, hr, _, hd, hf⟩
  · have hcap' := hcap
    unfold maxLen at hcap'
    have hl := (mkRows_up stepFact_up hm).2
    generalize hN : xs.length = N at *
    go_enter Tryz.func104, Tryz.ntmps104
    go_wp2
    go_loopg [1, 5] N (fun gk s1 s5 wr => ∃ (i : Nat) (ys : Ovi.Rows) (k1 : Int), i ≤ N ∧ N - i ≤ gk ∧ s5 = .int .i64 i ∧ s1 = .int .i64 k1 ∧ mkN stepFact i xs k = some (ys, k1) ∧ Ovi.But B w wr ∧ RowG wr NT b cap e 2 ys g)
    case atStart => exact ⟨0, xs, k, by omega, by omega, rfl, rfl, rfl, Ovi.But.refl _ _, hrow⟩
    case round =>
      obtain ⟨i, ys, k1, hi, hg, rfl, rfl, hmk, hbut0, hrow0⟩ := hrel
      by_cases hlt : i < N
      · obtain ⟨r, r', k2, hyr, hst, hmk2, b1, b2, b3, _⟩ := mkN_next stepFact_up hm hmk (by omega)
        obtain ⟨z0, l1, l1', rfl, hl1, rfl⟩ := stepFact_some hst
        have hx0_0 : cellD ys i 0 = some (.int .i64 z0) := by simp [cellD, hyr]
        have hx1_0 : cellD ys i 1 = some (.list 1 l1) := by simp [cellD, hyr]
        have hup1 := (mkRows_up stepInt_up hl1).1
        obtain ⟨u0, hc0, hf0, _⟩ := hrow0.at hx0_0
        have hrow1 := hrow0.set (fun h => h) hx0_0 (v := .int .i64 k1) (d := .int .i64 k1) rfl (.int _ _)
        have hbut1 : Ovi.But B w ((wr).setCell ⟨b, i * 2 + 0, none⟩ (.int .i64 k1)) := hbut0.trans (Ovi.But.setCell hBb)
        have hx1_1 := setD_other (d := .int .i64 k1) hx1_0 (by decide : 1 ≠ 0)
        obtain ⟨u1, hc1, hf1, hr1, n1, hd1, ho1⟩ := hrow1.at hx1_1
        have hglt1 : ∀ j c' k, g j c' k → k < ((wr).setCell ⟨b, i * 2 + 0, none⟩ (.int .i64 k1)).heap.size := fun j c' k hk => Nat.lt_of_lt_of_le (hB k (hgB j c' k hk)) hbut1.size
        have hcall1 := Tryz.mIntS _ u1 l1 (g i 1) n1 (k1 + 1) l1' k2 hd1 ho1 hr1 hl1 (by omega) (by omega) (fun k hk => hglt1 i 1 k hk)
        simp only [Nat.mul_one, Nat.add_zero] at hc0 hf0 hrow1 hbut1 hc1 hf1 hcall1 hglt1
        go_wp2_with (
          go_at_call 62
          refine hcall1.mono ?_
          rintro ex1 w1 ⟨rfl, hbc1, hrr1, nn1, hdd1, hoo1⟩
          have hrow2 := hrow1.call (fun k hk => hk.elim) hx1_1 (by omega) hc1 hbc1 hglt1 hrr1 hdd1 hoo1
          have hbut2 := hbut1.trans (hbc1.mono fun k hk => hgB i 1 k hk))
        go_roundg (N - i - 1)
        case measure => omega
        case rel => exact ⟨i + 1, _, k2, by omega, by omega, by go_num, by first | rfl | go_num, hmk2, hbut2, by rw [setD_at hyr, setD_at (set_at hyr)] at hrow2; simpa using hrow2⟩
      · obtain rfl : i = N := by omega
        go_wp2
        go_ret
        rw [← hN] at hmk
        have he : some (ys, k1) = some (xs', k') := hmk.symm.trans hm
        cases he
        obtain ⟨q1, q2⟩ := hrow0.forest hcap hBb hgB
        rw [hl] at q1 q2
        exact ⟨rfl, hbut0, q1, q2⟩
set_option maxHeartbeats 4000000 in
set_option maxRecDepth 1000000 in
theorem Tryz.mRelationS {mt : Int → List UInt8} (ht : ∀ (w : World) (k : Int), 0 ≤ k → k ≤ 4611686018427387904 → Calls Tryz.prog 103 #[.int .i64 k] w fun e w' => e = .returned (.string ⟨(mt k).toArray⟩) ∧ Below w.heap.size w w') : ListC Tryz.prog 29 3 (mkRows (stepRel mt)) := by
  intro w v xs B n k xs' k' hd hf hr hm hk hk2 hB
  rcases Fo.rows hd hf hr with ⟨rfl, A, cap, rfl⟩ | ⟨b, cap, e, g, rfl, hle, hcap, hBb, hgB, hrow⟩
  · cases hm
    go_enter Tryz.func29, Tryz.ntmps29
    go_wp2
    go_loopg [1, 5] 0 (fun g s1 s5 wr => s1 = .int .i64 k ∧ s5 = .int .i64 0 ∧ wr = w)
    case atStart => exact ⟨rfl, rfl, rfl⟩
    case round =>
      obtain ⟨rfl, rfl, rfl⟩ := hrel
      go_wp2
      go_ret
      exact ⟨rfl, Ovi.But.refl _ _, hr, _, hd, hf⟩
  · have hcap' := hcap
    unfold maxLen at hcap'
    have hl := (mkRows_up stepRel_up hm).2
    generalize hN : xs.length = N at *
    go_enter Tryz.func29, Tryz.ntmps29
    go_wp2
    go_loopg [1, 5] N (fun gk s1 s5 wr => ∃ (i : Nat) (ys : Ovi.Rows) (k1 : Int), i ≤ N ∧ N - i ≤ gk ∧ s5 = .int .i64 i ∧ s1 = .int .i64 k1 ∧ mkN (stepRel mt) i xs k = some (ys, k1) ∧ Ovi.But B w wr ∧ RowG wr NT b cap e 3 ys g)
    case atStart => exact ⟨0, xs, k, by omega, by omega, rfl, rfl, rfl, Ovi.But.refl _ _, hrow⟩
    case round =>
      obtain ⟨i, ys, k1, hi, hg, rfl, rfl, hmk, hbut0, hrow0⟩ := hrel
      by_cases hlt : i < N
      · obtain ⟨r, r', k2, hyr, hst, hmk2, b1, b2, b3, _⟩ := mkN_next stepRel_up hm hmk (by omega)
        obtain ⟨s0, z1, t2, rfl, rfl, rfl⟩ := stepRel_some hst
        have hx0_0 : cellD ys i 0 = some (.str s0) := by simp [cellD, hyr]
        have hx1_0 : cellD ys i 1 = some (.int .i64 z1) := by simp [cellD, hyr]
        have hx2_0 : cellD ys i 2 = some (.bool t2) := by simp [cellD, hyr]
        have ht0 := ht (wr) k1 (by omega) (by omega)
        go_wp2_with (
          go_at_call 103
          refine ht0.mono ?_
          rintro ex0 w0 ⟨rfl, hbel0⟩
          have hbut1 := hbut0.trans (Ovi.But.of_below hbel0)
          have hrow1 := hrow0.world (w' := w0) (fun k hk => hk.elim) (hbel0.block _ hrow0.lt) (fun j c' k hk => hbel0.block _ (Nat.lt_of_lt_of_le (hB k (hgB j c' k hk)) hbut0.size))
          obtain ⟨u0, hc0, hf0, _⟩ := hrow1.at hx0_0
          have hrow2 := hrow1.set (fun h => h) hx0_0 (v := .string ⟨(mt k1).toArray⟩) (d := .str (mt k1)) rfl (by have := RD.str (w := w0) (S := NT) (T := NT) ⟨(mt k1).toArray⟩; simpa using this)
          have hbut2 : Ovi.But B w ((w0).setCell ⟨b, i * 3 + 0, none⟩ (.string ⟨(mt k1).toArray⟩)) := hbut1.trans (Ovi.But.setCell hBb)
          have hx1_1 := setD_other (d := .str (mt k1)) hx1_0 (by decide : 1 ≠ 0)
          have hx2_1 := setD_other (d := .str (mt k1)) hx2_0 (by decide : 2 ≠ 0)
          obtain ⟨u1, hc1, hf1, _⟩ := hrow2.at hx1_1
          have hrow3 := hrow2.set (fun h => h) hx1_1 (v := .int .i64 (k1 + 1)) (d := .int .i64 (k1 + 1)) rfl (.int _ _)
          have hbut3 : Ovi.But B w (((w0).setCell ⟨b, i * 3 + 0, none⟩ (.string ⟨(mt k1).toArray⟩)).setCell ⟨b, i * 3 + 1, none⟩ (.int .i64 (k1 + 1))) := hbut2.trans (Ovi.But.setCell hBb)
          have hx2_2 := setD_other (d := .int .i64 (k1 + 1)) hx2_1 (by decide : 2 ≠ 1)
          obtain ⟨u2, hc2, hf2, _⟩ := hrow3.at hx2_2
          have hrow4 := hrow3.set (fun h => h) hx2_2 (v := .bool ((k1 + 1 + 1) % 3 == 0)) (d := .bool ((k1 + 1 + 1) % 3 == 0)) rfl (.bool _)
          have hbut4 : Ovi.But B w ((((w0).setCell ⟨b, i * 3 + 0, none⟩ (.string ⟨(mt k1).toArray⟩)).setCell ⟨b, i * 3 + 1, none⟩ (.int .i64 (k1 + 1))).setCell ⟨b, i * 3 + 2, none⟩ (.bool ((k1 + 1 + 1) % 3 == 0))) := hbut3.trans (Ovi.But.setCell hBb)
          simp only [Nat.mul_one, Nat.add_zero] at hc0 hf0 hrow2 hbut2 hc1 hf1 hrow3 hbut3 hc2 hf2 hrow4 hbut4)
        go_roundg (N - i - 1)
        case measure => omega
        case rel => exact ⟨i + 1, _, (k1 + 1 + 1 + 1), by omega, by omega, by go_num, by first | rfl | go_num, hmk2, hbut4, by rw [setD_at hyr, setD_at (set_at hyr), setD_at (set_at (set_at hyr))] at hrow4; simpa using hrow4⟩
      · obtain rfl : i = N := by omega
        go_wp2
        go_ret
        rw [← hN] at hmk
        have he : some (ys, k1) = some (xs', k') := hmk.symm.trans hm
        cases he
        obtain ⟨q1, q2⟩ := hrow0.forest hcap hBb hgB
        rw [hl] at q1 q2
        exact ⟨rfl, hbut0, q1, q2⟩
set_option maxHeartbeats 4000000 in
set_option maxRecDepth 1000000 in
theorem Tryz.mInstance {mt : Int → List UInt8} (ht : ∀ (w : World) (k : Int), 0 ≤ k → k ≤ 4611686018427387904 → Calls Tryz.prog 103 #[.int .i64 k] w fun e w' => e = .returned (.string ⟨(mt k).toArray⟩) ∧ Below w.heap.size w w') : AggC Tryz.prog 17 (stepInst mt) := by
  intro w us ds G k ds' k' hsz hcells hdis hlt hm hk hk2
  obtain ⟨x0, x1, y0, k1, y1, rfl, h1, h2, rfl⟩ := stepInst_some hm
  have up1 := (mkRows_up stepRel_up h1).1
  have up2 := (mkRows_up stepFact_up h2).1
  obtain ⟨u0, hu0, c0⟩ := hcells 0 _ rfl
  obtain ⟨u1, hu1, c1⟩ := hcells 1 _ rfl
  have hus : us = #[u0, u1] := by
    apply Array.ext_getElem?
    intro i
    match i with
    | 0 => exact hu0
    | 1 => exact hu1
    | i + 2 => rw [Array.getElem?_eq_none (by rw [hsz]; simp), Array.getElem?_eq_none (by simp)]
  subst hus
  have hb0 : Ovi.But (fun _ => False) w (w.alloc (.cells #[u0, u1] 30 (0, 0))) := Ovi.But.of_below ((Below.refl _ w).alloc (Nat.le_refl _) _)
  have hnew : ∀ c k, G c k → k ≠ w.heap.size := fun c k hk he => by have := hlt c k hk; omega
  have c0 : CellF (w.alloc (.cells #[u0, u1] 30 (0, 0))) (G 0) u0 _ := CellF.but c0 hb0 (hlt 0) (fun _ _ h => h)
  have c1 : CellF (w.alloc (.cells #[u0, u1] 30 (0, 0))) (G 1) u1 _ := CellF.but c1 hb0 (hlt 1) (fun _ _ h => h)
  have hlt1 : ∀ c b, G c b → b < (w.alloc (.cells #[u0, u1] 30 (0, 0))).heap.size := fun c b hb => Nat.lt_of_lt_of_le (hlt c b hb) hb0.size
  have l0 : (w.alloc (.cells #[u0, u1] 30 (0, 0))).cell? ⟨w.heap.size, 0, none⟩ = some u0 := alloc_cell w _ _ rfl
  have l1 : (w.alloc (.cells #[u0, u1] 30 (0, 0))).cell? ⟨w.heap.size, 1, none⟩ = some u1 := alloc_cell w _ _ rfl
  obtain ⟨r0, n0, d0, f0⟩ := c0
  have hcall0 := Tryz.mRelationS ht _ u0 x0 (G 0) n0 k y0 k1 d0 f0 r0 h1 hk (by omega) (hlt1 0)
  clear ht
  go_enter Tryz.func17, Tryz.ntmps17
  go_wp2_with (
    go_at_call 29
    refine hcall0.mono ?_
    rintro e1 w1 ⟨rfl, b1, r1, n1, d1, f1⟩
    have l1' := b1.cell (fun h => hnew _ _ h rfl) l1
    have c1' := c1.but b1 (hlt1 1) (fun k h h' => absurd (hdis _ _ _ h h') (by decide))
    obtain ⟨r2, n2, d2, f2⟩ := c1'
    have hlt2 : ∀ c b, G c b → b < w1.heap.size := fun c b hb => Nat.lt_of_lt_of_le (hlt1 c b hb) b1.size
    have hcall1 := Tryz.mFactS _ u1 x1 (G 1) n2 k1 y1 k' d2 f2 r2 h2 (by omega) hk2 (hlt2 1))
  refine hcall1.mono ?_
  rintro e2 w2 ⟨rfl, b2, r3, n3, d3, f3⟩
  go_wp2
  go_ret
  have c0'' := CellF.but (B := G 0) ⟨r1, n1, d1, f1⟩ b2 (hlt2 0) (fun k h h' => absurd (hdis _ _ _ h h') (by decide))
  refine ⟨rfl, ((hb0.mono fun _ h => h.elim).trans (b1.mono fun k h => ⟨0, h⟩)).trans (b2.mono fun k h => ⟨1, h⟩), fun c x hx => ?_⟩
  match c, hx with
  | 0, hx => cases hx; exact ⟨u0, rfl, c0''⟩
  | 1, hx => cases hx; exact ⟨u1, rfl, r3, n3, d3, f3⟩
  | c + 2, hx => simp at hx
set_option maxHeartbeats 4000000 in
set_option maxRecDepth 1000000 in
theorem Tryz.mQuery : AggC Tryz.prog 30 stepQuery := by
  intro w us ds G k ds' k' hsz hcells hdis hlt hm hk hk2
  obtain ⟨x0, x1, y0, k1, y1, rfl, h1, h2, rfl⟩ := stepQuery_some hm
  have up1 := (mkRows_up stepInt_up h1).1
  have up2 := (mkRows_up stepFact_up h2).1
  obtain ⟨u0, hu0, c0⟩ := hcells 0 _ rfl
  obtain ⟨u1, hu1, c1⟩ := hcells 1 _ rfl
  have hus : us = #[u0, u1] := by
    apply Array.ext_getElem?
    intro i
    match i with
    | 0 => exact hu0
    | 1 => exact hu1
    | i + 2 => rw [Array.getElem?_eq_none (by rw [hsz]; simp), Array.getElem?_eq_none (by simp)]
  subst hus
  have hb0 : Ovi.But (fun _ => False) w (w.alloc (.cells #[u0, u1] 49 (0, 0))) := Ovi.But.of_below ((Below.refl _ w).alloc (Nat.le_refl _) _)
  have hnew : ∀ c k, G c k → k ≠ w.heap.size := fun c k hk he => by have := hlt c k hk; omega
  have c0 : CellF (w.alloc (.cells #[u0, u1] 49 (0, 0))) (G 0) u0 _ := CellF.but c0 hb0 (hlt 0) (fun _ _ h => h)
  have c1 : CellF (w.alloc (.cells #[u0, u1] 49 (0, 0))) (G 1) u1 _ := CellF.but c1 hb0 (hlt 1) (fun _ _ h => h)
  have hlt1 : ∀ c b, G c b → b < (w.alloc (.cells #[u0, u1] 49 (0, 0))).heap.size := fun c b hb => Nat.lt_of_lt_of_le (hlt c b hb) hb0.size
  have l0 : (w.alloc (.cells #[u0, u1] 49 (0, 0))).cell? ⟨w.heap.size, 0, none⟩ = some u0 := alloc_cell w _ _ rfl
  have l1 : (w.alloc (.cells #[u0, u1] 49 (0, 0))).cell? ⟨w.heap.size, 1, none⟩ = some u1 := alloc_cell w _ _ rfl
  obtain ⟨r0, n0, d0, f0⟩ := c0
  have hcall0 := Tryz.mIntS _ u0 x0 (G 0) n0 k y0 k1 d0 f0 r0 h1 hk (by omega) (hlt1 0)
  go_enter Tryz.func30, Tryz.ntmps30
  go_wp2_with (
    go_at_call 62
    refine hcall0.mono ?_
    rintro e1 w1 ⟨rfl, b1, r1, n1, d1, f1⟩
    have l1' := b1.cell (fun h => hnew _ _ h rfl) l1
    have c1' := c1.but b1 (hlt1 1) (fun k h h' => absurd (hdis _ _ _ h h') (by decide))
    obtain ⟨r2, n2, d2, f2⟩ := c1'
    have hlt2 : ∀ c b, G c b → b < w1.heap.size := fun c b hb => Nat.lt_of_lt_of_le (hlt1 c b hb) b1.size
    have hcall1 := Tryz.mAtomS _ u1 x1 (G 1) n2 k1 y1 k' d2 f2 r2 h2 (by omega) hk2 (hlt2 1))
  refine hcall1.mono ?_
  rintro e2 w2 ⟨rfl, b2, r3, n3, d3, f3⟩
  go_wp2
  go_ret
  have c0'' := CellF.but (B := G 0) ⟨r1, n1, d1, f1⟩ b2 (hlt2 0) (fun k h h' => absurd (hdis _ _ _ h h') (by decide))
  refine ⟨rfl, ((hb0.mono fun _ h => h.elim).trans (b1.mono fun k h => ⟨0, h⟩)).trans (b2.mono fun k h => ⟨1, h⟩), fun c x hx => ?_⟩
  match c, hx with
  | 0, hx => cases hx; exact ⟨u0, rfl, c0''⟩
  | 1, hx => cases hx; exact ⟨u1, rfl, r3, n3, d3, f3⟩
  | c + 2, hx => simp at hx
set_option maxHeartbeats 4000000 in
set_option maxRecDepth 1000000 in
theorem Tryz.mIntSS : ListC Tryz.prog 34 1 (mkRows stepInts) := by
  intro w v xs B n k xs' k' hd hf hr hm hk hk2 hB
  rcases Fo.rows hd hf hr with ⟨rfl, A, cap, rfl⟩ | ⟨b, cap, e, g, rfl, hle, hcap, hBb, hgB, hrow⟩
  · cases hm
    go_enter Tryz.func34, Tryz.ntmps34
    go_wp2
    go_loopg [1, 5] 0 (fun g s1 s5 wr => s1 = .int .i64 k ∧ s5 = .int .i64 0 ∧ wr = w)
    case atStart => exact ⟨rfl, rfl, rfl⟩
    case round =>
      obtain ⟨rfl, rfl, rfl⟩ := hrel
      go_wp2
      go_ret
      exact ⟨rfl, Ovi.But.refl _ _, hr, _, hd, hf⟩
  · have hcap' := hcap
    unfold maxLen at hcap'
    have hl := (mkRows_up stepInts_up hm).2
    generalize hN : xs.length = N at *
    go_enter Tryz.func34, Tryz.ntmps34
    go_wp2
    go_loopg [1, 5] N (fun gk s1 s5 wr => ∃ (i : Nat) (ys : Ovi.Rows) (k1 : Int), i ≤ N ∧ N - i ≤ gk ∧ s5 = .int .i64 i ∧ s1 = .int .i64 k1 ∧ mkN stepInts i xs k = some (ys, k1) ∧ Ovi.But B w wr ∧ RowG wr NT b cap e 1 ys g)
    case atStart => exact ⟨0, xs, k, by omega, by omega, rfl, rfl, rfl, Ovi.But.refl _ _, hrow⟩
    case round =>
      obtain ⟨i, ys, k1, hi, hg, rfl, rfl, hmk, hbut0, hrow0⟩ := hrel
      by_cases hlt : i < N
      · obtain ⟨r, r', k2, hyr, hst, hmk2, b1, b2, b3, _⟩ := mkN_next stepInts_up hm hmk (by omega)
        obtain ⟨l0, l0', rfl, hl0, rfl⟩ := stepInts_some hst
        have hx0_0 : cellD ys i 0 = some (.list 1 l0) := by simp [cellD, hyr]
        have hup0 := (mkRows_up stepInt_up hl0).1
        obtain ⟨u0, hc0, hf0, hr0, n0, hd0, ho0⟩ := hrow0.at hx0_0
        have hglt0 : ∀ j c' k, g j c' k → k < (wr).heap.size := fun j c' k hk => Nat.lt_of_lt_of_le (hB k (hgB j c' k hk)) hbut0.size
        have hcall0 := Tryz.mIntS _ u0 l0 (g i 0) n0 k1 l0' k2 hd0 ho0 hr0 hl0 (by omega) (by omega) (fun k hk => hglt0 i 0 k hk)
        simp only [Nat.mul_one, Nat.add_zero] at hc0 hf0 hcall0 hglt0
        go_wp2_with (
          go_at_call 62
          refine hcall0.mono ?_
          rintro ex0 w0 ⟨rfl, hbc0, hrr0, nn0, hdd0, hoo0⟩
          have hrow1 := hrow0.call (fun k hk => hk.elim) hx0_0 (by omega) hc0 hbc0 hglt0 hrr0 hdd0 hoo0
          have hbut1 := hbut0.trans (hbc0.mono fun k hk => hgB i 0 k hk))
        go_roundg (N - i - 1)
        case measure => omega
        case rel => exact ⟨i + 1, _, k2, by omega, by omega, by go_num, by first | rfl | go_num, hmk2, hbut1, by rw [setD_at hyr] at hrow1; simpa using hrow1⟩
      · obtain rfl : i = N := by omega
        go_wp2
        go_ret
        rw [← hN] at hmk
        have he : some (ys, k1) = some (xs', k') := hmk.symm.trans hm
        cases he
        obtain ⟨q1, q2⟩ := hrow0.forest hcap hBb hgB
        rw [hl] at q1 q2
        exact ⟨rfl, hbut0, q1, q2⟩
set_option maxHeartbeats 4000000 in
set_option maxRecDepth 1000000 in
theorem Tryz.mIneq : AggC Tryz.prog 43 stepIneq := by
  intro w us ds G k ds' k' hsz hcells hdis hlt hm hk hk2
  obtain ⟨x0, x1, y, z, y0, k1, y1, rfl, h1, h2, rfl⟩ := stepIneq_some hm
  obtain ⟨u0, hu0, c0⟩ := hcells 0 _ rfl
  obtain ⟨u1, hu1, c1⟩ := hcells 1 _ rfl
  obtain ⟨u2, hu2, c2⟩ := hcells 2 _ rfl
  obtain ⟨u3, hu3, c3⟩ := hcells 3 _ rfl
  have hus : us = #[u0, u1, u2, u3] := by
    apply Array.ext_getElem?
    intro i
    match i with
    | 0 => exact hu0
    | 1 => exact hu1
    | 2 => exact hu2
    | 3 => exact hu3
    | i + 4 => rw [Array.getElem?_eq_none (by rw [hsz]; simp), Array.getElem?_eq_none (by simp)]
  subst hus
  have hb0 : Ovi.But (fun _ => False) w (w.alloc (.cells #[u0, u1, u2, u3] 66 (0, 0))) := Ovi.But.of_below ((Below.refl _ w).alloc (Nat.le_refl _) _)
  have c0 : CellF (w.alloc (.cells #[u0, u1, u2, u3] 66 (0, 0))) (G 0) u0 _ := CellF.but c0 hb0 (hlt 0) (fun _ _ h => h)
  have c1 : CellF (w.alloc (.cells #[u0, u1, u2, u3] 66 (0, 0))) (G 1) u1 _ := CellF.but c1 hb0 (hlt 1) (fun _ _ h => h)
  have c2 : CellF (w.alloc (.cells #[u0, u1, u2, u3] 66 (0, 0))) (G 2) u2 _ := CellF.but c2 hb0 (hlt 2) (fun _ _ h => h)
  have c3 : CellF (w.alloc (.cells #[u0, u1, u2, u3] 66 (0, 0))) (G 3) u3 _ := CellF.but c3 hb0 (hlt 3) (fun _ _ h => h)
  have hlt1 : ∀ c b, G c b → b < (w.alloc (.cells #[u0, u1, u2, u3] 66 (0, 0))).heap.size := fun c b hb => Nat.lt_of_lt_of_le (hlt c b hb) hb0.size
  have l0 : (w.alloc (.cells #[u0, u1, u2, u3] 66 (0, 0))).cell? ⟨w.heap.size, 0, none⟩ = some u0 := alloc_cell w _ _ rfl
  have l1 : (w.alloc (.cells #[u0, u1, u2, u3] 66 (0, 0))).cell? ⟨w.heap.size, 1, none⟩ = some u1 := alloc_cell w _ _ rfl
  have hst : stepQuery [.list 1 x0, .list 2 x1] k = some ([.list 1 y0, .list 2 y1], k') := by
    simp only [stepQuery, h1, Option.bind_some, h2, Option.map_some]
  have G2 : ∀ c b, (c < 2 ∧ G c b) → G c b := fun c b h => h.2
  have hq := Tryz.mQuery (w.alloc (.cells #[u0, u1, u2, u3] 66 (0, 0))) #[u0, u1] [.list 1 x0, .list 2 x1] (fun c b => c < 2 ∧ G c b) k [.list 1 y0, .list 2 y1] k' rfl (fun c x hx => by
    match c, hx with
    | 0, hx => cases hx; exact ⟨u0, rfl, CellF.sub c0 fun b hb => ⟨by decide, hb⟩⟩
    | 1, hx => cases hx; exact ⟨u1, rfl, CellF.sub c1 fun b hb => ⟨by decide, hb⟩⟩
    | c + 2, hx => simp at hx) (fun c c' b h h' => hdis c c' b h.2 h'.2) (fun c b h => hlt1 c b h.2) hst hk hk2
  go_enter Tryz.func43, Tryz.ntmps43
  go_wp2_with (
    go_at_call 30
    refine hq.mono ?_
    rintro e1 w1 ⟨rfl, b1, r1⟩)
  go_wp2
  go_ret
  refine ⟨rfl, (hb0.mono fun _ h => h.elim).trans (b1.mono fun k h => let ⟨c, h⟩ := h; ⟨c, h.2⟩), fun c x hx => ?_⟩
  match c, hx with
  | 0, hx => cases hx; obtain ⟨u, hu, hc⟩ := r1 0 _ rfl; cases hu; exact ⟨u0, rfl, CellF.sub hc fun b h => h.2⟩
  | 1, hx => cases hx; obtain ⟨u, hu, hc⟩ := r1 1 _ rfl; cases hu; exact ⟨u1, rfl, CellF.sub hc fun b h => h.2⟩
  | 2, hx => cases hx; exact ⟨u2, rfl, CellF.but c2 b1 (hlt1 2) (fun b h ⟨c, h1, h2⟩ => by have := hdis _ _ _ h h2; omega)⟩
  | 3, hx => cases hx; exact ⟨u3, rfl, CellF.but c3 b1 (hlt1 3) (fun b h ⟨c, h1, h2⟩ => by have := hdis _ _ _ h h2; omega)⟩
  | c + 4, hx => simp at hx
end Go.Proofs

/-! USh -/
namespace Go.Proofs
open Go.Shelf
def Tryz.lays122_ren : Go.Shelf.Ren := ⟨fun | 122 => 225 | 215 => 266 | n => n, fun | 3 => 3 | 4 => 4 | n => n, fun | n => n⟩
theorem Tryz.lays122 : Go.Proofs.Lays.n122 Tryz.prog Tryz.lays122_ren := {
  mixed := by kernel_rfl
  f122 := Tryz.func225.trans (congrArg some (by kernel_rfl))
  f215 := Tryz.func266.trans (congrArg some (by kernel_rfl))
  t3 := Tryz.underlying3
  a3 := Tryz.isAgg3
  z3 := Tryz.sizeOf3
  v3 := Tryz.zeroValue3
  t4 := Tryz.underlying4
  a4 := Tryz.isAgg4
  z4 := Tryz.sizeOf4
  v4 := Tryz.zeroValue4 }
def Tryz.lays189_ren : Go.Shelf.Ren := ⟨fun | 189 => 215 | 125 => 223 | 257 => 253 | 128 => 264 | 129 => 265 | 294 => 276 | 295 => 277 | 296 => 278 | 297 => 279 | 298 => 280 | 299 => 281 | 216 => 282 | 300 => 283 | 301 => 284 | 328 => 300 | 329 => 286 | 330 => 287 | 331 => 301 | 332 => 302 | 215 => 266 | 343 => 309 | n => n, fun | 28 => 39 | 3 => 3 | 46 => 236 | 0 => 0 | 51 => 265 | 53 => 267 | 4 => 4 | 183 => 259 | 182 => 258 | 131 => 119 | 5 => 5 | 9 => 9 | 218 => 279 | 222 => 283 | 228 => 295 | 229 => 296 | n => n, fun | n => n⟩
theorem Tryz.lays189 : Go.Proofs.Lays.n189 Tryz.prog Tryz.lays189_ren := {
  mixed := by kernel_rfl
  f125 := Tryz.func223.trans (congrArg some (by kernel_rfl))
  f128 := Tryz.func264.trans (congrArg some (by kernel_rfl))
  f129 := Tryz.func265.trans (congrArg some (by kernel_rfl))
  f189 := Tryz.func215.trans (congrArg some (by kernel_rfl))
  f215 := Tryz.func266.trans (congrArg some (by kernel_rfl))
  f216 := Tryz.func282.trans (congrArg some (by kernel_rfl))
  f257 := Tryz.func253.trans (congrArg some (by kernel_rfl))
  f294 := Tryz.func276.trans (congrArg some (by kernel_rfl))
  f295 := Tryz.func277.trans (congrArg some (by kernel_rfl))
  f296 := Tryz.func278.trans (congrArg some (by kernel_rfl))
  f297 := Tryz.func279.trans (congrArg some (by kernel_rfl))
  f298 := Tryz.func280.trans (congrArg some (by kernel_rfl))
  f299 := Tryz.func281.trans (congrArg some (by kernel_rfl))
  f300 := Tryz.func283.trans (congrArg some (by kernel_rfl))
  f301 := Tryz.func284.trans (congrArg some (by kernel_rfl))
  f328 := Tryz.func300.trans (congrArg some (by kernel_rfl))
  f329 := Tryz.func286.trans (congrArg some (by kernel_rfl))
  f330 := Tryz.func287.trans (congrArg some (by kernel_rfl))
  f331 := Tryz.func301.trans (congrArg some (by kernel_rfl))
  f332 := Tryz.func302.trans (congrArg some (by kernel_rfl))
  f343 := Tryz.func309.trans (congrArg some (by kernel_rfl))
  t0 := Tryz.underlying0
  a0 := Tryz.isAgg0
  z0 := Tryz.sizeOf0
  v0 := Tryz.zeroValue0
  t3 := Tryz.underlying3
  a3 := Tryz.isAgg3
  z3 := Tryz.sizeOf3
  v3 := Tryz.zeroValue3
  t4 := Tryz.underlying4
  a4 := Tryz.isAgg4
  z4 := Tryz.sizeOf4
  v4 := Tryz.zeroValue4
  t5 := Tryz.underlying5
  a5 := Tryz.isAgg5
  z5 := Tryz.sizeOf5
  v5 := Tryz.zeroValue5
  t9 := Tryz.underlying9
  a9 := Tryz.isAgg9
  z9 := Tryz.sizeOf9
  v9 := Tryz.zeroValue9
  t28 := Tryz.underlying39
  a28 := Tryz.isAgg39
  z28 := Tryz.sizeOf39
  v28 := Tryz.zeroValue39
  t46 := Tryz.underlying236
  a46 := Tryz.isAgg236
  z46 := Tryz.sizeOf236
  v46 := Tryz.zeroValue236
  t51 := Tryz.underlying265
  a51 := Tryz.isAgg265
  z51 := Tryz.sizeOf265
  v51 := Tryz.zeroValue265
  t53 := Tryz.underlying267
  a53 := Tryz.isAgg267
  z53 := Tryz.sizeOf267
  v53 := Tryz.zeroValue267
  t131 := Tryz.underlying119
  a131 := Tryz.isAgg119
  z131 := Tryz.sizeOf119
  v131 := Tryz.zeroValue119
  t182 := Tryz.underlying258
  a182 := Tryz.isAgg258
  z182 := Tryz.sizeOf258
  v182 := Tryz.zeroValue258
  t183 := Tryz.underlying259
  a183 := Tryz.isAgg259
  z183 := Tryz.sizeOf259
  v183 := Tryz.zeroValue259
  t218 := Tryz.underlying279
  a218 := Tryz.isAgg279
  z218 := Tryz.sizeOf279
  v218 := Tryz.zeroValue279
  t222 := Tryz.underlying283
  a222 := Tryz.isAgg283
  z222 := Tryz.sizeOf283
  v222 := Tryz.zeroValue283
  t228 := Tryz.underlying295
  a228 := Tryz.isAgg295
  z228 := Tryz.sizeOf295
  v228 := Tryz.zeroValue295
  t229 := Tryz.underlying296
  a229 := Tryz.isAgg296
  z229 := Tryz.sizeOf296
  v229 := Tryz.zeroValue296 }
def Tryz.lays264_ren : Go.Shelf.Ren := ⟨fun | 264 => 305 | n => n, fun | 53 => 267 | 46 => 236 | n => n, fun | n => n⟩
theorem Tryz.lays264 : Go.Proofs.Lays.n264 Tryz.prog Tryz.lays264_ren := {
  mixed := by kernel_rfl
  f264 := Tryz.func305.trans (congrArg some (by kernel_rfl))
  t46 := Tryz.underlying236
  a46 := Tryz.isAgg236
  z46 := Tryz.sizeOf236
  v46 := Tryz.zeroValue236
  t53 := Tryz.underlying267
  a53 := Tryz.isAgg267
  z53 := Tryz.sizeOf267
  v53 := Tryz.zeroValue267 }
def Tryz.lays212_ren : Go.Shelf.Ren := ⟨fun | 212 => 290 | 263 => 304 | 264 => 305 | n => n, fun | 46 => 236 | 51 => 265 | 146 => 298 | 53 => 267 | 148 => 300 | n => n, fun | n => n⟩
theorem Tryz.lays212 : Go.Proofs.Lays.n212 Tryz.prog Tryz.lays212_ren := {
  mixed := by kernel_rfl
  f212 := Tryz.func290.trans (congrArg some (by kernel_rfl))
  f263 := Tryz.func304.trans (congrArg some (by kernel_rfl))
  f264 := Tryz.func305.trans (congrArg some (by kernel_rfl))
  t46 := Tryz.underlying236
  a46 := Tryz.isAgg236
  z46 := Tryz.sizeOf236
  v46 := Tryz.zeroValue236
  t51 := Tryz.underlying265
  a51 := Tryz.isAgg265
  z51 := Tryz.sizeOf265
  v51 := Tryz.zeroValue265
  t53 := Tryz.underlying267
  a53 := Tryz.isAgg267
  z53 := Tryz.sizeOf267
  v53 := Tryz.zeroValue267
  t146 := Tryz.underlying298
  a146 := Tryz.isAgg298
  z146 := Tryz.sizeOf298
  v146 := Tryz.zeroValue298
  t148 := Tryz.underlying300
  a148 := Tryz.isAgg300
  z148 := Tryz.sizeOf300
  v148 := Tryz.zeroValue300 }
def Tryz.lays111_ren : Go.Shelf.Ren := ⟨fun | 111 => 236 | n => n, fun | 28 => 39 | 3 => 3 | 4 => 4 | 0 => 0 | n => n, fun | n => n⟩
theorem Tryz.lays111 : Go.Proofs.Lays.n111 Tryz.prog Tryz.lays111_ren := {
  mixed := by kernel_rfl
  f111 := Tryz.func236.trans (congrArg some (by kernel_rfl))
  t0 := Tryz.underlying0
  a0 := Tryz.isAgg0
  z0 := Tryz.sizeOf0
  v0 := Tryz.zeroValue0
  t3 := Tryz.underlying3
  a3 := Tryz.isAgg3
  z3 := Tryz.sizeOf3
  v3 := Tryz.zeroValue3
  t4 := Tryz.underlying4
  a4 := Tryz.isAgg4
  z4 := Tryz.sizeOf4
  v4 := Tryz.zeroValue4
  t28 := Tryz.underlying39
  a28 := Tryz.isAgg39
  z28 := Tryz.sizeOf39
  v28 := Tryz.zeroValue39 }
def Tryz.laysNm215_ren : Go.Shelf.Ren := ⟨fun | 15 => 192 | n => n, fun | 22 => 39 | 3 => 3 | 4 => 4 | n => n, fun | n => n⟩
theorem Tryz.laysNm215 : Go.Proofs.Lays2.n15 Tryz.prog Tryz.laysNm215_ren := {
  mixed := by kernel_rfl
  f15 := Tryz.func192.trans (congrArg some (by kernel_rfl))
  t3 := Tryz.underlying3
  a3 := Tryz.isAgg3
  z3 := Tryz.sizeOf3
  v3 := Tryz.zeroValue3
  t4 := Tryz.underlying4
  a4 := Tryz.isAgg4
  z4 := Tryz.sizeOf4
  v4 := Tryz.zeroValue4
  t22 := Tryz.underlying39
  a22 := Tryz.isAgg39
  z22 := Tryz.sizeOf39
  v22 := Tryz.zeroValue39
  i3 := by kernel_rfl }
def Tryz.laysNm220_ren : Go.Shelf.Ren := ⟨fun | 20 => 216 | n => n, fun | 22 => 39 | 3 => 3 | 4 => 4 | 0 => 0 | n => n, fun | n => n⟩
theorem Tryz.laysNm220 : Go.Proofs.Lays2.n20 Tryz.prog Tryz.laysNm220_ren := {
  mixed := by kernel_rfl
  f20 := Tryz.func216.trans (congrArg some (by kernel_rfl))
  t0 := Tryz.underlying0
  a0 := Tryz.isAgg0
  z0 := Tryz.sizeOf0
  v0 := Tryz.zeroValue0
  t3 := Tryz.underlying3
  a3 := Tryz.isAgg3
  z3 := Tryz.sizeOf3
  v3 := Tryz.zeroValue3
  t4 := Tryz.underlying4
  a4 := Tryz.isAgg4
  z4 := Tryz.sizeOf4
  v4 := Tryz.zeroValue4
  t22 := Tryz.underlying39
  a22 := Tryz.isAgg39
  z22 := Tryz.sizeOf39
  v22 := Tryz.zeroValue39
  i3 := by kernel_rfl }
def Tryz.laysSlF6_f234_ren : Go.Shelf.Ren := ⟨fun | 6 => 234 | 15 => 223 | 14 => 271 | 28 => 264 | 29 => 265 | 20 => 292 | 21 => 293 | 22 => 294 | 23 => 295 | 24 => 296 | 25 => 297 | 26 => 298 | 27 => 299 | 46 => 306 | 47 => 286 | 48 => 287 | 49 => 307 | 50 => 308 | 57 => 310 | n => n, fun | 22 => 56 | 24 => 39 | 25 => 205 | 3 => 3 | 39 => 236 | 0 => 0 | 53 => 265 | 55 => 267 | 4 => 4 | 46 => 259 | 45 => 258 | 50 => 119 | 5 => 5 | 9 => 9 | 66 => 279 | 70 => 283 | 76 => 295 | 77 => 296 | n => n, fun | n => n⟩
theorem Tryz.laysSlF6_f234 : Go.Proofs.SlLaysF.n6 Tryz.prog Tryz.laysSlF6_f234_ren := {
  mixed := by kernel_rfl
  f6 := ⟨Tryz.f234.name, by decide, Tryz.func234.trans (congrArg some (by kernel_rfl))⟩
  f14 := ⟨Tryz.f271.name, by decide, Tryz.func271.trans (congrArg some (by kernel_rfl))⟩
  f15 := Tryz.func223.trans (congrArg some (by kernel_rfl))
  f20 := ⟨Tryz.f292.name, by decide, Tryz.func292.trans (congrArg some (by kernel_rfl))⟩
  f21 := ⟨Tryz.f293.name, by decide, Tryz.func293.trans (congrArg some (by kernel_rfl))⟩
  f22 := ⟨Tryz.f294.name, by decide, Tryz.func294.trans (congrArg some (by kernel_rfl))⟩
  f23 := ⟨Tryz.f295.name, by decide, Tryz.func295.trans (congrArg some (by kernel_rfl))⟩
  f24 := ⟨Tryz.f296.name, by decide, Tryz.func296.trans (congrArg some (by kernel_rfl))⟩
  f25 := ⟨Tryz.f297.name, by decide, Tryz.func297.trans (congrArg some (by kernel_rfl))⟩
  f26 := ⟨Tryz.f298.name, by decide, Tryz.func298.trans (congrArg some (by kernel_rfl))⟩
  f27 := ⟨Tryz.f299.name, by decide, Tryz.func299.trans (congrArg some (by kernel_rfl))⟩
  f28 := Tryz.func264.trans (congrArg some (by kernel_rfl))
  f29 := Tryz.func265.trans (congrArg some (by kernel_rfl))
  f46 := ⟨Tryz.f306.name, by decide, Tryz.func306.trans (congrArg some (by kernel_rfl))⟩
  f47 := Tryz.func286.trans (congrArg some (by kernel_rfl))
  f48 := Tryz.func287.trans (congrArg some (by kernel_rfl))
  f49 := ⟨Tryz.f307.name, by decide, Tryz.func307.trans (congrArg some (by kernel_rfl))⟩
  f50 := ⟨Tryz.f308.name, by decide, Tryz.func308.trans (congrArg some (by kernel_rfl))⟩
  f57 := ⟨Tryz.f310.name, by decide, Tryz.func310.trans (congrArg some (by kernel_rfl))⟩
  t0 := Tryz.underlying0
  a0 := Tryz.isAgg0
  z0 := Tryz.sizeOf0
  v0 := Tryz.zeroValue0
  t3 := Tryz.underlying3
  a3 := Tryz.isAgg3
  z3 := Tryz.sizeOf3
  v3 := Tryz.zeroValue3
  t4 := Tryz.underlying4
  a4 := Tryz.isAgg4
  z4 := Tryz.sizeOf4
  v4 := Tryz.zeroValue4
  t5 := Tryz.underlying5
  a5 := Tryz.isAgg5
  z5 := Tryz.sizeOf5
  v5 := Tryz.zeroValue5
  t9 := Tryz.underlying9
  a9 := Tryz.isAgg9
  z9 := Tryz.sizeOf9
  v9 := Tryz.zeroValue9
  t22 := Tryz.underlying56
  a22 := Tryz.isAgg56
  z22 := Tryz.sizeOf56
  v22 := Tryz.zeroValue56
  a24 := Tryz.isAgg39
  z24 := Tryz.sizeOf39
  t25 := Tryz.underlying205
  a25 := Tryz.isAgg205
  z25 := Tryz.sizeOf205
  v25 := Tryz.zeroValue205
  t39 := Tryz.underlying236
  a39 := Tryz.isAgg236
  z39 := Tryz.sizeOf236
  v39 := Tryz.zeroValue236
  t45 := Tryz.underlying258
  a45 := Tryz.isAgg258
  z45 := Tryz.sizeOf258
  v45 := Tryz.zeroValue258
  t46 := Tryz.underlying259
  a46 := Tryz.isAgg259
  z46 := Tryz.sizeOf259
  v46 := Tryz.zeroValue259
  t50 := Tryz.underlying119
  a50 := Tryz.isAgg119
  z50 := Tryz.sizeOf119
  v50 := Tryz.zeroValue119
  t53 := Tryz.underlying265
  a53 := Tryz.isAgg265
  z53 := Tryz.sizeOf265
  v53 := Tryz.zeroValue265
  t55 := Tryz.underlying267
  a55 := Tryz.isAgg267
  z55 := Tryz.sizeOf267
  v55 := Tryz.zeroValue267
  t66 := Tryz.underlying279
  a66 := Tryz.isAgg279
  z66 := Tryz.sizeOf279
  v66 := Tryz.zeroValue279
  t70 := Tryz.underlying283
  a70 := Tryz.isAgg283
  z70 := Tryz.sizeOf283
  v70 := Tryz.zeroValue283
  t76 := Tryz.underlying295
  a76 := Tryz.isAgg295
  z76 := Tryz.sizeOf295
  v76 := Tryz.zeroValue295
  t77 := Tryz.underlying296
  a77 := Tryz.isAgg296
  z77 := Tryz.sizeOf296
  v77 := Tryz.zeroValue296 }
end Go.Proofs

/-! URp -/
namespace Go.Proofs
open Go.Shelf Go.RowKit Go.Lib Go.Sort
theorem alloc_setRow (w : World) (q : Nat) (c c' : Array Value) (t : TypeId) : ((w.alloc (.cells c t (0, 0))).drewN q).setRow w.heap.size c' = (w.alloc (.cells c' t (0, 0))).drewN q := by
  unfold World.setRow World.alloc World.drewN
  simp only [World.mk.injEq, and_true, true_and]
  apply Array.ext_getElem?
  intro i
  rw [Array.getElem?_modify, Array.getElem?_push, Array.getElem?_push]
  by_cases h : i = w.heap.size
  · subst h; simp
  · rw [if_neg (fun e => h e.symm), if_neg h, if_neg h]
/-- the row while it is filled -/
def rep5 (n : Nat) : Array Value := ((List.replicate n (Value.int .i64 10)) ++ (List.replicate (5 - n) (Value.int .i64 0))).toArray
theorem rep5_size {n : Nat} (h : n ≤ 5) : (rep5 n).size = 5 := by simp [rep5]; omega
theorem rep5_cell {w : World} {n q j : Nat} (h : j < n) (hn : n ≤ 5) : ((w.alloc (.cells (rep5 n) 3 (0, 0))).drewN q).cell? ⟨w.heap.size, j, none⟩ = some (.int .i64 10) := by
  have hg : (w.alloc (.cells (rep5 n) 3 (0, 0))).heap[w.heap.size]? = some (.cells (rep5 n) 3 (0, 0)) := by
    show (w.heap.push _)[w.heap.size]? = _
    simp
  simp only [World.cell?, World.heap_drewN, hg, Option.isSome_none, Bool.false_eq_true, if_false]
  unfold rep5
  rw [List.getElem?_toArray, List.getElem?_append_left (by simpa using h), List.getElem?_replicate, if_pos h]
theorem rep5_copy (w : World) (n m q : Nat) (a : Addr) (sl sc dc : Nat) (ty : TypeId) (hn : n + m ≤ 5) (hm : Nat.min sl (5 - n) = m) (ha : ∀ j, j < m → ((w.alloc (.cells (rep5 n) 3 (0, 0))).drewN q).cell? (a.add j) = some (.int .i64 10)) :
    (Builtin.copy_ #[39, 39] ty #[.slice (some ⟨w.heap.size, n, none⟩) (5 - n) dc, .slice (some a) sl sc]).run Tryz.prog ((w.alloc (.cells (rep5 n) 3 (0, 0))).drewN q) = .ok (goInt m) ((w.alloc (.cells (rep5 (n + m)) 3 (0, 0))).drewN q) := by
  have := run_copy_row (P := Tryz.prog) ((w.alloc (.cells (rep5 n) 3 (0, 0))).drewN q) 39 39 ty 3 w.heap.size n (5 - n) dc a sl sc (rep5 n) 3 (List.replicate m (.int .i64 10)) (by kernel_rfl) (by kernel_rfl) (by show (w.heap.push _)[w.heap.size]? = _; simp) (by rw [List.length_replicate, hm])
    (fun j v hj => by
      obtain ⟨h1, h2⟩ := List.getElem?_eq_some_iff.1 hj
      rw [List.length_replicate] at h1
      rw [ha j h1, ← h2]; simp) (by rw [List.length_replicate, rep5_size (by omega)]; omega) (fun v hv => by rw [List.eq_of_mem_replicate hv]; rfl)
  have e : ((rep5 n).toList.take n ++ List.replicate m (Value.int .i64 10) ++ (rep5 n).toList.drop (n + (List.replicate m (Value.int .i64 10)).length)).toArray = rep5 (n + m) := by
    unfold rep5
    apply Array.toList_inj.1
    simp only [List.length_replicate]
    rw [List.take_left' (by simp), List.drop_append, List.drop_eq_nil_of_le (by simp), List.nil_append, List.length_replicate, List.drop_replicate, List.replicate_append_replicate, show 5 - n - (n + m - n) = 5 - (n + m) by omega]
  rw [this, List.length_replicate, alloc_setRow]
  rw [List.length_replicate] at e
  rw [e]
set_option maxHeartbeats 4000000 in
set_option maxRecDepth 1000000 in
theorem Tryz.repeat_walk (b o c : Nat) (w : World) (hx : w.cell? ⟨b, o, none⟩ = some (.int .i64 10)) (hb : b < w.heap.size) :
    Calls Tryz.prog 268 #[.slice (some ⟨b, o, none⟩) 1 c, .int .i64 5] w fun e w' => e = .returned (.slice (some ⟨w.heap.size, 0, none⟩) 5 5) ∧ ∃ q, w' = (w.alloc (.cells #[.int .i64 10, .int .i64 10, .int .i64 10, .int .i64 10, .int .i64 10] 3 (0, 0))).drewN q := by
  have mixed : Tryz.prog.follows .mixedOrders = true := by kernel_rfl
  have hmul : Calls Tryz.prog 290 #[.int .u64 1, .int .u64 5] w fun e w' => e = .returned (.tuple #[.int .u64 0, .int .u64 5]) ∧ w' = w := by
    have := Any.bits_Mul Tryz.lays212 1 5 (by omega) (by omega) w
    change Calls Tryz.prog 290 _ _ _ at this
    simpa using this
  have hmk : ∀ W : World, (Instr.makeSlice 39 (.int .i64 5) (.int .i64 5)).run Tryz.prog W = .ok (.slice (some ⟨W.heap.size, 0, none⟩) 5 5) (W.alloc (.cells #[.int .i64 0, .int .i64 0, .int .i64 0, .int .i64 0, .int .i64 0] 3 (0, 0))) := fun W => by kernel_rfl
  have hcp0 : ∀ ty, (Builtin.copy_ #[39, 39] ty #[.slice (some ⟨w.heap.size, 0, none⟩) 5 5, .slice (some ⟨b, o, none⟩) 1 c]).run Tryz.prog (w.alloc (.cells #[.int .i64 0, .int .i64 0, .int .i64 0, .int .i64 0, .int .i64 0] 3 (0, 0))) = .ok (.int .i64 1) ((w.alloc (.cells (rep5 1) 3 (0, 0))).drewN 0) := fun ty =>
    rep5_copy w 0 1 0 ⟨b, o, none⟩ 1 c 5 ty (by omega) rfl (fun j hj => by
      obtain rfl : j = 0 := by omega
      have : (w.alloc (.cells (rep5 0) 3 (0, 0))).cell? ⟨b, o, none⟩ = some (.int .i64 10) := by
        rw [← hx]
        unfold World.cell?
        rw [show (w.alloc (.cells (rep5 0) 3 (0, 0))).heap[b]? = w.heap[b]? from Below.heap_alloc w _ b hb]
      simpa [Addr.add] using this)
  go_enter Tryz.func268, Tryz.ntmps268
  go_wp2_with (go_at_call 290; refine hmul.mono ?_; rintro e w' ⟨rfl, rfl⟩)
  go_loopg [8] 5 (fun g s8 wr => ∃ n q : Nat, (n = 1 ∨ n = 2 ∨ n = 4 ∨ n = 5) ∧ 5 - n ≤ g ∧ s8 = .int .i64 n ∧ wr = (w'.alloc (.cells (rep5 n) 3 (0, 0))).drewN q)
  case atStart => exact ⟨1, 0, .inl rfl, by omega, rfl, rfl⟩
  case round =>
    obtain ⟨n, q, hn, hg, rfl, rfl⟩ := hrel
    have hs : ∀ (n m sl : Nat), n + m ≤ 5 → Nat.min sl (5 - n) = m → m ≤ n → ∀ q dc sc ty, (Builtin.copy_ #[39, 39] ty #[.slice (some ⟨w'.heap.size, n, none⟩) (5 - n) dc, .slice (some ⟨w'.heap.size, 0, none⟩) sl sc]).run Tryz.prog ((w'.alloc (.cells (rep5 n) 3 (0, 0))).drewN q) = .ok (goInt m) ((w'.alloc (.cells (rep5 (n + m)) 3 (0, 0))).drewN q) :=
      fun n m sl h1 h2 h3 q dc sc ty => rep5_copy w' n m q ⟨w'.heap.size, 0, none⟩ sl sc dc ty h1 h2 (fun j hj => by rw [Ovi.add_at, Nat.zero_add]; exact rep5_cell (by omega) (by omega))
    clear hcp0 hmk
    rcases hn with rfl | rfl | rfl | rfl
    · have h1 : ∀ q, (Builtin.copy_ #[39, 39] 3 #[.slice (some ⟨w'.heap.size, 1, none⟩) 4 4, .slice (some ⟨w'.heap.size, 0, none⟩) 1 5]).run Tryz.prog ((w'.alloc (.cells (rep5 1) 3 (0, 0))).drewN q) = .ok (.int .i64 1) ((w'.alloc (.cells (rep5 2) 3 (0, 0))).drewN q) := fun q => hs 1 1 1 (by omega) rfl (by omega) q 4 5 3
      clear hs
      go_wp2_with fail
      go_region_o
      go_wp2
      go_roundg 3
      case measure => omega
      case rel => exact ⟨2, q + 1, .inr (.inl rfl), by omega, by first | rfl | go_num, rfl⟩
    · have h1 : ∀ q, (Builtin.copy_ #[39, 39] 3 #[.slice (some ⟨w'.heap.size, 2, none⟩) 3 3, .slice (some ⟨w'.heap.size, 0, none⟩) 2 5]).run Tryz.prog ((w'.alloc (.cells (rep5 2) 3 (0, 0))).drewN q) = .ok (.int .i64 2) ((w'.alloc (.cells (rep5 4) 3 (0, 0))).drewN q) := fun q => hs 2 2 2 (by omega) rfl (by omega) q 3 5 3
      clear hs
      go_wp2_with fail
      go_region_o
      go_wp2
      go_roundg 1
      case measure => omega
      case rel => exact ⟨4, q + 1, .inr (.inr (.inl rfl)), by omega, by first | rfl | go_num, rfl⟩
    · have h1 : ∀ q, (Builtin.copy_ #[39, 39] 3 #[.slice (some ⟨w'.heap.size, 4, none⟩) 1 1, .slice (some ⟨w'.heap.size, 0, none⟩) 4 5]).run Tryz.prog ((w'.alloc (.cells (rep5 4) 3 (0, 0))).drewN q) = .ok (.int .i64 1) ((w'.alloc (.cells (rep5 5) 3 (0, 0))).drewN q) := fun q => hs 4 1 4 (by omega) rfl (by omega) q 1 5 3
      clear hs
      go_wp2_with fail
      go_region_o
      go_wp2
      go_roundg 0
      case measure => omega
      case rel => exact ⟨5, q + 1, .inr (.inr (.inr rfl)), by omega, by first | rfl | go_num, rfl⟩
    · go_wp2
      go_ret
      exact ⟨rfl, q, rfl⟩
end Go.Proofs

/-! UCm -/
namespace Go.Proofs
open Go.Shelf Go.RowKit Go.Lib Go.Sort Ovi
set_option maxHeartbeats 2000000 in
set_option maxRecDepth 1000000 in
theorem Tryz.cmp_both (b o c b' o' c' : Nat) (xs ys : List Int) (w : World) (hl : xs.length < 4611686018427387904) (hl' : ys.length < 4611686018427387904)
    (hx : ∀ (i : Nat) z, xs[i]? = some z → w.cell? ⟨b, o + i, none⟩ = some (.int .i64 z)) (hy : ∀ (i : Nat) z, ys[i]? = some z → w.cell? ⟨b', o' + i, none⟩ = some (.int .i64 z)) :
    Calls Tryz.prog 226 #[.slice (some ⟨b, o, none⟩) xs.length c, .slice (some ⟨b', o', none⟩) ys.length c'] w fun e w' => e = .returned (.int .i64 (cmpL xs ys)) ∧ w' = w := by
  go_enter Tryz.func226, Tryz.ntmps226
  go_wp2
  go_loop [11] (fun i => ∃ k : Nat, k ≤ xs.length ∧ k ≤ ys.length ∧ i = .int .i64 k ∧ Hid (cmpL xs ys = cmpL (xs.drop k) (ys.drop k))) (fun i => xs.length - (intOf i).toNat)
  case atStart => exact ⟨0, Nat.zero_le _, Nat.zero_le _, rfl, rfl⟩
  case round =>
    obtain ⟨k, hk, hk', rfl, H⟩ := hrel
    by_cases hlt : k < xs.length
    · by_cases hlt' : k < ys.length
      · have g1 := hx k _ (List.getElem?_eq_getElem hlt)
        have g2 := hy k _ (List.getElem?_eq_getElem hlt')
        have D : Hid (cmpL (xs.drop k) (ys.drop k) = if xs[k] < ys[k] then -1 else if xs[k] > ys[k] then 1 else cmpL (xs.drop (k + 1)) (ys.drop (k + 1))) := by
          show _ = _
          rw [List.drop_eq_getElem_cons hlt, List.drop_eq_getElem_cons hlt']
          rfl
        clear hx hy
        have hcon := Any.cmp_Compare_int Tryz.lays122 xs[k] ys[k] w
        change Calls Tryz.prog 225 _ _ _ at hcon
        have E : Hid (Lib.compareInt xs[k] ys[k] = if xs[k] < ys[k] then -1 else if xs[k] > ys[k] then 1 else 0) := by
          show _ = _
          unfold Lib.compareInt
          rfl
        generalize hr : Lib.compareInt xs[k] ys[k] = r at hcon E
        clear hr
        generalize xs[k] = x at *
        generalize ys[k] = y at *
        by_cases hr0 : r = 0
        · subst hr0
          go_wp2_with (go_at_call 225; refine hcon.mono ?_; rintro e w' ⟨rfl, rfl⟩)
          go_round
          case rel =>
            refine ⟨k + 1, by omega, by omega, by go_num, ?_⟩
            show _ = _
            have h1 := E.out
            have h2 := D.out
            rw [H.out, h2]
            by_cases q1 : x < y
            · rw [if_pos q1] at h1; omega
            · rw [if_neg q1] at h1 ⊢
              by_cases q2 : x > y
              · rw [if_pos q2] at h1; omega
              · rw [if_neg q2]
          case measure => simp [intOf]; omega
        · go_wp2_with (go_at_call 225; refine hcon.mono ?_; rintro e w' ⟨rfl, rfl⟩)
          go_ret
          refine ⟨?_, rfl⟩
          show Ending.returned (Value.int .i64 r) = Ending.returned (Value.int .i64 (cmpL xs ys))
          have h1 := E.out
          have h2 := D.out
          rw [H.out, h2]
          by_cases q1 : x < y
          · rw [if_pos q1] at h1 ⊢; rw [h1]
          · rw [if_neg q1] at h1 ⊢
            by_cases q2 : x > y
            · rw [if_pos q2] at h1 ⊢; rw [h1]
            · rw [if_neg q2] at h1; exact absurd h1 hr0
      · obtain rfl : k = ys.length := by omega
        have g1 := hx ys.length _ (List.getElem?_eq_getElem hlt)
        have D : Hid (cmpL xs ys = 1) := by
          show _ = _
          rw [H.out, List.drop_length, List.drop_eq_getElem_cons hlt]
          rfl
        clear hx hy H
        generalize xs[ys.length] = x at g1
        go_wp2
        go_ret
        refine ⟨?_, rfl⟩
        show Ending.returned (Value.int .i64 1) = Ending.returned (Value.int .i64 (cmpL xs ys))
        rw [D.out]
    · clear hx hy
      obtain rfl : k = xs.length := by omega
      by_cases hlen : xs.length < ys.length
      · go_wp2
        go_ret
        refine ⟨?_, rfl⟩
        rw [H.out, List.drop_length, List.drop_eq_getElem_cons hlen]
        rfl
      · go_wp2
        go_ret
        refine ⟨?_, rfl⟩
        rw [H.out, List.drop_length, List.drop_of_length_le (by omega)]
        rfl
set_option maxHeartbeats 2000000 in
set_option maxRecDepth 1000000 in
theorem Tryz.cmp_nil (A A' : Option Addr) (c n c' : Nat) (w : World) :
    Calls Tryz.prog 226 #[.slice A 0 c, .slice A' n c'] w fun e w' => e = .returned (.int .i64 (if 0 < n then -1 else 0)) ∧ w' = w := by
  by_cases hn : 0 < n
  · rw [if_pos hn]
    go_enter Tryz.func226, Tryz.ntmps226
    go_wp2
    go_loop [11] (fun i => i = .int .i64 0) (fun _ => 0)
    case atStart => rfl
    case round =>
      subst hrel
      go_wp2
      go_ret
      exact ⟨rfl, rfl⟩
  · rw [if_neg hn]
    obtain rfl : n = 0 := by omega
    go_enter Tryz.func226, Tryz.ntmps226
    go_wp2
    go_loop [11] (fun i => i = .int .i64 0) (fun _ => 0)
    case atStart => rfl
    case round =>
      subst hrel
      go_wp2
      go_ret
      exact ⟨rfl, rfl⟩
set_option maxHeartbeats 2000000 in
set_option maxRecDepth 1000000 in
theorem Tryz.cmp_one (b o c n c' : Nat) (A' : Option Addr) (x : Int) (w : World) (hn : 0 < n) (hx : w.cell? ⟨b, o, none⟩ = some (.int .i64 x)) :
    Calls Tryz.prog 226 #[.slice (some ⟨b, o, none⟩) n c, .slice A' 0 c'] w fun e w' => e = .returned (.int .i64 1) ∧ w' = w := by
  go_enter Tryz.func226, Tryz.ntmps226
  go_wp2
  go_loop [11] (fun i => i = .int .i64 0) (fun _ => 0)
  case atStart => rfl
  case round =>
    subst hrel
    go_wp2
    go_ret
    exact ⟨rfl, rfl⟩
end Go.Proofs

/-! UEq -/
namespace Go.Proofs
open Go.Shelf Go.RowKit Go.Lib Go.Sort Ovi
/-- a list that is not empty lies in cells -/
theorem RI_addr {w : World} {S : Nat → Prop} {zs : List Int} {B : Option Addr} (hne : zs ≠ []) (h : ∀ (i : Nat) z, zs[i]? = some z → ∃ ad, B = some ad ∧ S ad.block ∧ w.cell? (ad.add i) = some (.int .i64 z)) : ∃ b o, B = some ⟨b, o, none⟩ ∧ ∀ (i : Nat) z, zs[i]? = some z → w.cell? ⟨b, o + i, none⟩ = some (.int .i64 z) := by
  cases zs with
  | nil => exact absurd rfl hne
  | cons z0 zs =>
    obtain ⟨ad, e, _, h0⟩ := h 0 z0 rfl
    obtain ⟨b, o, spot⟩ := ad
    have hspot : spot = none := by simpa [Addr.add] using World.cell?_spot h0
    subst hspot
    refine ⟨b, o, e, fun i z hz => ?_⟩
    obtain ⟨ad', e', _, hi⟩ := h i z hz
    rw [e] at e'
    cases e'
    rwa [Ovi.add_at] at hi
theorem cells_getD {w : World} {b o : Nat} {zs : List Int} (h : ∀ (i : Nat) z, zs[i]? = some z → w.cell? ⟨b, o + i, none⟩ = some (.int .i64 z)) : ∀ j, j < zs.length → w.cell? ⟨b, o + j, none⟩ = some (.int .i64 (zs.getD j 0)) := by
  intro j hj
  have hg := List.getElem?_eq_getElem hj
  rw [h j _ hg, List.getD_eq_getElem?_getD, hg]
  rfl
/-- slices.Equal's contract at lists that are read -/
theorem Tryz.eqC : EqC Tryz.prog 236 := by
  intro w S u v xs ys ⟨A, c, hu, hc, hx⟩ ⟨A', c', hv, hc', hy⟩ hxl hyl
  subst hu hv
  have fin : ∀ {z z' : Bool}, z = z' → ∀ {vs : Array Value}, (Calls Tryz.prog 236 vs w fun e w' => e = .returned (.bool z) ∧ w' = w) → Calls Tryz.prog 236 vs w fun e w' => e = .returned (.bool z') ∧ ∃ q, w' = w.drewN q := by
    intro z z' hz vs h
    subst hz
    exact h.mono fun e w' ⟨h1, h2⟩ => ⟨h1, 0, by rw [h2]; rfl⟩
  by_cases hlen : xs.length = ys.length
  · by_cases hx0 : xs = []
    · subst hx0
      have hy0 : ys = [] := List.eq_nil_of_length_eq_zero hlen.symm
      subst hy0
      exact fin rfl (Any.slices_Equal_int_empty Tryz.lays111 A A' c 0 c' w (by omega))
    · have hy0 : ys ≠ [] := fun e => hx0 (List.eq_nil_of_length_eq_zero (by rw [hlen, e]; rfl))
      obtain ⟨b, o, rfl, hx1⟩ := RI_addr hx0 hx
      obtain ⟨b', o', rfl, hy1⟩ := RI_addr hy0 hy
      refine (Any.slices_Equal_int Tryz.lays111 b o xs.length c b' o' ys.length c' xs ys w (Nat.le_refl _) (Nat.le_refl _) (by omega) (by omega) (cells_getD hx1) (cells_getD hy1)).mono fun e w' ⟨h1, h2⟩ => ⟨?_, h2⟩
      rw [h1, List.take_length, List.take_length]
      exact congrArg _ (congrArg _ (Bool.eq_iff_iff.2 (by simp)))
  · exact fin (decide_eq_false (fun e => hlen (by rw [e]))).symm (Any.slices_Equal_int_lens Tryz.lays111 A A' xs.length c ys.length c' w hlen)
end Go.Proofs

/-! UCf -/
namespace Go.Proofs
open Go.Shelf Go.RowKit Go.Lib Go.Sort Ovi
variable {α : Type} [Inhabited α]
/-- the row's lists -/
def lsts (lst : α → List Int) (d : Array α) : Array (List Int) := d.map lst
omit [Inhabited α] in
theorem lsts_size (lst : α → List Int) (d : Array α) : (lsts lst d).size = d.size := by simp [lsts]
theorem lsts_get (lst : α → List Int) {d : Array α} {k : Nat} (h : k < d.size) : (lsts lst d)[k]! = lst d[k]! := by
  rw [getElem!_pos _ k (by rw [lsts_size]; exact h), getElem!_pos d k h]
  simp [lsts]
omit [Inhabited α] in
theorem lsts_set (lst : α → List Int) (d : Array α) (k : Nat) (x : α) : lsts lst (d.setIfInBounds k x) = (lsts lst d).setIfInBounds k (lst x) := by
  unfold lsts
  apply Array.ext_getElem?
  intro i
  simp only [Array.getElem?_map, Array.getElem?_setIfInBounds, Array.size_map]
  by_cases h : k = i
  · subst h
    simp only [if_true]
    split <;> rfl
  · simp [h]
/-- what slices.CompactFunc leaves -/
def CfPost (lst : α → List Int) (enc : α → Value) (w : World) (blk off cap : Nat) (d : Array α) (e : Ending) (w' : World) : Prop :=
  ∃ (dk : Array α) (q kk : Nat), e = .returned (.slice (some ⟨blk, off, none⟩) kk cap) ∧ dk.size = d.size ∧ w' = (putRow enc w blk off dk).drewN q ∧ kk ≤ d.size ∧ (dk.toList.take kk).map lst = Lib.compact (d.toList.map lst)
theorem cf_same (lst : α → List Int) (enc : α → Value) {w : World} {blk off cap : Nat} {d : Array α} (hH : Holds enc w blk off d) (q : Nat) (hall : ∀ j, j < d.size → keeps (lsts lst d) j = true) : CfPost lst enc w blk off cap d (.returned (.slice (some ⟨blk, off, none⟩) d.size cap)) (w.drewN q) := by
  refine ⟨d, q, d.size, rfl, rfl, ?_, Nat.le_refl _, ?_⟩
  · rw [putRow_self enc w blk off d hH]
  · rw [show d.size = d.toList.length by simp, List.take_length]
    have := compact_all (d.toList.map lst) (fun j hj => by
      have h2 : (d.toList.map lst).toArray = lsts lst d := by apply Array.ext_getElem?; intro i; simp [lsts]
      rw [h2]
      exact hall j (by simpa using hj))
    exact this.symm
theorem cf_done (lst : α → List Int) {d dk : Array α} {kk : Nat} (h : CompInv (lsts lst d) (lsts lst d).size kk (lsts lst dk)) (hs : dk.size = d.size) : (dk.toList.take kk).map lst = Lib.compact (d.toList.map lst) := by
  have h2 : (d.toList.map lst).toArray = lsts lst d := by apply Array.ext_getElem?; intro i; simp [lsts]
  unfold Lib.compact
  rw [h2, show (d.toList.map lst).length = (lsts lst d).size by simp [lsts]]
  have hlt := h.lt
  rw [lsts_size] at hlt
  apply List.ext_getElem?
  intro i
  by_cases hi : i < kk
  · rw [h.low i hi, lsts_get lst (by omega), List.getElem?_map, List.getElem?_take_of_lt hi, getElem!_pos dk i (by omega)]
    simp [show i < dk.size by omega]
  · rw [List.getElem?_eq_none (by simp; omega), List.getElem?_eq_none (by rw [h.len]; omega)]
theorem store_world_e {enc : α → Value} {w wr : World} {n blk off : Nat} {dk : Array α} {i : Nat} (hi : i < dk.size) (hwr : wr = (putRow enc w blk off dk).drewN n) (x : α) :
    wr.setCell ⟨blk, off + i, none⟩ (enc x) = (putRow enc w blk off (dk.setIfInBounds i x)).drewN n := by
  subst hwr
  have := putRow_set enc w blk off dk i x hi
  rw [← this]
  rfl
omit [Inhabited α] in
theorem lay_size : ∀ (xs : List α) (d : Array α) (k : Nat), (lay d k xs).size = d.size
  | [], _, _ => rfl
  | x :: r, d, k => by rw [lay, lay_size r]; simp
theorem setCells_drewN (b n : Nat) : ∀ (vs : List Value) (o : Nat) (w : World), (w.drewN n).setCells b o vs = (w.setCells b o vs).drewN n
  | [], _, _ => rfl
  | v :: r, o, w => by
    simp only [World.setCells]
    exact setCells_drewN b n r (o + 1) (w.setCell ⟨b, o, none⟩ v)
set_option maxHeartbeats 4000000 in
set_option maxRecDepth 1000000 in
theorem Tryz.compactFunc (enc : α → Value) (hO : OneCell enc) (lst : α → List Int) (z : α) (hz : enc z = .slice none 0 0) (g : Nat) (blk off cap : Nat) (d : Array α) (w : World)
    (eg : ∀ args w, (callFunc g args).run Tryz.prog w = .ok (.enter g args) w)
    (hcmp : ∀ (m : Nat) (dk : Array α), dk.size = d.size → ∀ x y : α, Calls Tryz.prog g #[enc x, enc y] ((putRow enc w blk off dk).drewN m) fun e w' => e = .returned (.bool (decide (lst x = lst y))) ∧ ∃ q, w' = ((putRow enc w blk off dk).drewN m).drewN q)
    (hH : Holds enc w blk off d) (hsz : d.size < 4611686018427387904) (hcap : d.size ≤ cap) :
    Calls Tryz.prog 235 #[.slice (some ⟨blk, off, none⟩) d.size cap, .func (.func g) #[] #[]] w (CfPost lst enc w blk off cap d) := by
  have mixed : Tryz.prog.follows .mixedOrders = true := by kernel_rfl
  have hcl0 := hO.cells
  simp only [Value.cells] at hcl0
  have hst := hO.store Tryz.prog
  have HH : Hid (Holds enc w blk off d) := hH
  have HC : Aside (∀ (m : Nat) (dk : Array α), dk.size = d.size → ∀ x y : α, Calls Tryz.prog g #[enc x, enc y] ((putRow enc w blk off dk).drewN m) fun e w' => e = .returned (.bool (decide (lst x = lst y))) ∧ ∃ q, w' = ((putRow enc w blk off dk).drewN m).drewN q) := hcmp
  clear hcmp hH
  by_cases h2 : d.size < 2
  · go_enter Tryz.func235, Tryz.ntmps235
    go_wp2
    go_ret
    exact cf_same lst enc HH.out 0 (fun j hj => keeps_lt_one _ j (by omega))
  · go_enter Tryz.func235, Tryz.ntmps235
    go_wp2
    go_loopg [5] d.size (fun g s5 wr => ∃ k q : Nat, 1 ≤ k ∧ k ≤ d.size ∧ d.size - k ≤ g ∧ s5 = .int .i64 k ∧ wr = w.drewN q ∧ Hid (∀ j, j < k → keeps (lsts lst d) j = true))
    case atStart => exact ⟨1, 0, Nat.le_refl _, by omega, by omega, rfl, rfl, keeps_lt_one _⟩
    case round =>
      obtain ⟨k, q, hk1, hk, hg, rfl, rfl, hall⟩ := hrel
      by_cases hlt : k < d.size
      · obtain ⟨c1, f1⟩ := HH.out k hlt
        obtain ⟨c0, f0⟩ := HH.out (k - 1) (by omega)
        have hc : ∀ n, Calls Tryz.prog g #[enc d[k]!, enc d[k - 1]!] ((w.drewN q).drewN n) fun e w' => e = .returned (.bool (decide (lst d[k]! = lst d[k - 1]!))) ∧ ∃ q', w' = ((w.drewN q).drewN n).drewN q' := fun n => by
          have := HC.out (q + n) d rfl d[k]! d[k - 1]!
          rw [putRow_self enc w blk off d HH.out, ← World.drewN_drewN] at this
          exact this
        have B : Aside ((lsts lst d)[k]! = lst d[k]! ∧ (lsts lst d)[k - 1]! = lst d[k - 1]!) := ⟨lsts_get lst hlt, lsts_get lst (by omega)⟩
        generalize d[k]! = x at *
        generalize d[k - 1]! = y at *
        have c1' : (w.drewN q).cell? ⟨blk, off + k, none⟩ = some (enc x) := c1
        obtain ⟨k1, rfl⟩ : ∃ k1, k = k1 + 1 := ⟨k - 1, by omega⟩
        simp only [Nat.add_sub_cancel] at c0 f0 B
        have c0' : (w.drewN q).cell? ⟨blk, off + k1, none⟩ = some (enc y) := c0
        have hwp : IntKind.i64.wrap (k1 : Int) = (k1 : Int) := by rw [IntKind.wrap_i64]; omega
        have jz : (k1 : Int) + 1 < (d.size : Int) := by omega
        have jz1 : (k1 : Int) < (d.size : Int) := by omega
        have p0 : (0 : Int) ≤ (k1 : Int) + 1 := by omega
        have e0 : ((k1 : Int) + 1).toNat = k1 + 1 := by omega
        clear c1 c0 f1 f0
        have WQ : Hid (w.drewN q = w.drewN q) := rfl
        generalize hwq : w.drewN q = wq at c1' c0' hc ⊢
        have HW : Hid (w.drewN q = wq) := hwq
        clear hwq WQ
        by_cases hdup : lst x = lst y
        · have hd : decide (lst x = lst y) = true := decide_eq_true hdup
          rw [hd] at hc
          clear hd
          go_wp2_with fail
          go_quiet_o (first | (go_at_fn g; refine Calls.quiet_of (hc _)))
          go_wp2_with fail
          go_wp2
          go_loopg [5, 7] d.size (fun g s5 s7 wr => ∃ (kk kb q2 : Nat) (dk : Array α), s5 = .int .i64 kk ∧ s7 = .int .i64 ((kb + 1 : Nat) : Int) ∧ k1 + 1 + (kb + 1) ≤ d.size ∧ d.size - (k1 + 1 + (kb + 1)) ≤ g ∧ dk.size = d.size ∧ wr = (putRow enc w blk off dk).drewN q2 ∧ Hid (CompInv (lsts lst d) (k1 + 1 + (kb + 1)) kk (lsts lst dk)))
          case atStart =>
            refine ⟨k1 + 1, 0, q + nq, d, by first | rfl | go_num, by first | rfl | go_num, by omega, by omega, rfl, ?_, (show CompInv _ _ _ _ from ?_)⟩
            · rw [← HW.out, World.drewN_drewN, putRow_self enc w blk off d HH.out]
            · exact CompInv.start hall.out (keeps_neg (by omega) (by rw [B.out.1, Nat.add_sub_cancel, B.out.2]; exact hdup))
          case round =>
            obtain ⟨kk, kb, q2, dk, rfl, rfl, hle, hg2, hds, hwr, hI⟩ := hrel
            have hHk : Holds enc wr blk off dk := by rw [hwr]; exact holds_putRow enc w blk off d dk HH.out hds
            have hkk := hI.out.lt
            by_cases hlt2 : k1 + 1 + (kb + 1) < d.size
            · obtain ⟨cm, _⟩ := hHk (k1 + 1 + (kb + 1)) (by omega)
              obtain ⟨cp, _⟩ := hHk (k1 + 1 + kb) (by omega)
              obtain ⟨ck, fk⟩ := hHk kk (by omega)
              have hc2 : ∀ n, Calls Tryz.prog g #[enc dk[k1 + 1 + (kb + 1)]!, enc dk[k1 + 1 + kb]!] (wr.drewN n) fun e w' => e = .returned (.bool (decide (lst dk[k1 + 1 + (kb + 1)]! = lst dk[k1 + 1 + kb]!))) ∧ ∃ q', w' = (wr.drewN n).drewN q' := fun n => by
                have := HC.out (q2 + n) dk hds dk[k1 + 1 + (kb + 1)]! dk[k1 + 1 + kb]!
                rw [← World.drewN_drewN, ← hwr] at this
                exact this
              have B2 : Aside ((lsts lst d)[k1 + 1 + (kb + 1)]! = lst dk[k1 + 1 + (kb + 1)]! ∧ (lsts lst d)[k1 + 1 + kb]! = lst dk[k1 + 1 + kb]!) :=
                ⟨by rw [← hI.out.high _ (by omega), lsts_get lst (by omega)], by rw [← hI.out.high _ (by omega), lsts_get lst (by omega)]⟩
              have HW2 : Hid (wr = (putRow enc w blk off dk).drewN q2) := hwr
              clear hwr hHk
              rw [show off + (k1 + 1 + (kb + 1)) = off + (k1 + 1) + (kb + 1) by omega] at cm
              rw [show off + (k1 + 1 + kb) = off + (k1 + 1) + kb by omega] at cp
              generalize dk[k1 + 1 + (kb + 1)]! = um at *
              generalize dk[k1 + 1 + kb]! = up at *
              generalize dk[kk]! = old at ck
              have r1 : (kb : Int) + 1 < ((d.size - (k1 + 1) : Nat) : Int) := by omega
              have r2 : (kb : Int) < ((d.size - (k1 + 1) : Nat) : Int) := by omega
              have r3 : (0 : Int) ≤ (kb : Int) + 1 := by omega
              have r4 : ((kb : Int) + 1).toNat = kb + 1 := by omega
              have r5 : IntKind.i64.wrap (kb : Int) = (kb : Int) := by rw [IntKind.wrap_i64]; omega
              have r6 : kk < d.size := by omega
              by_cases hdup2 : lst um = lst up
              · have hd : decide (lst um = lst up) = true := decide_eq_true hdup2
                rw [hd] at hc2
                clear hd
                go_wp2_with fail
                go_quiet_o (first | (go_at_fn g; refine Calls.quiet_of (hc2 _)))
                go_wp2
                go_roundg (d.size - (k1 + 1 + (kb + 1 + 1)))
                case measure => omega
                case rel => exact ⟨kk, kb + 1, q2 + nq, dk, rfl, by go_num, by omega, Nat.le_refl _, hds, by rw [HW2.out, World.drewN_drewN], hI.out.skip (keeps_neg (by omega) (by rw [B2.out.1, show k1 + 1 + (kb + 1) - 1 = k1 + 1 + kb by omega, B2.out.2]; exact hdup2))⟩
              · have hd : decide (lst um = lst up) = false := decide_eq_false hdup2
                rw [hd] at hc2
                clear hd
                go_wp2_with fail
                go_quiet_o (first | (go_at_fn g; refine Calls.quiet_of (hc2 _)))
                go_wp2_with fail
                have cm2 : (wr.drewN nq).cell? ⟨blk, off + (k1 + 1) + (kb + 1), none⟩ = some (enc um) := cm
                have ck2 : (wr.drewN nq).cell? ⟨blk, off + kk, none⟩ = some (enc old) := ck
                have fk2 : (wr.drewN nq).frozen? ⟨blk, off + kk, none⟩ = false := fk
                clear cm cp ck fk hc2
                have HW3 : Hid (wr.drewN nq = (putRow enc w blk off dk).drewN (q2 + nq)) := by show _ = _; rw [HW2.out, World.drewN_drewN]
                generalize wr.drewN nq = wr2 at cm2 ck2 fk2 HW3 ⊢
                go_wp2
                go_roundg (d.size - (k1 + 1 + (kb + 1 + 1)))
                case measure => omega
                case rel =>
                  refine ⟨kk + 1, kb + 1, q2 + nq, dk.setIfInBounds kk um, by go_num, by go_num, by omega, Nat.le_refl _, by simpa using hds, store_world_e (by omega) HW3.out um, (show CompInv _ _ _ _ from ?_)⟩
                  have := hI.out.keep (by rw [lsts_size]; omega) (keeps_pos (by rw [B2.out.1, show k1 + 1 + (kb + 1) - 1 = k1 + 1 + kb by omega, B2.out.2]; exact hdup2))
                  rw [B2.out.1] at this
                  rw [lsts_set]
                  exact this
            · have hend : k1 + 1 + (kb + 1) = d.size := by omega
              have hcl : ∀ ty, (Builtin.clear_ #[56] ty #[.slice (some ⟨blk, off + kk, none⟩) (d.size - kk) (cap - kk)]).run Tryz.prog wr = .ok (.tuple #[]) (wr.setCells blk (off + kk) (List.replicate (d.size - kk) (.slice none 0 0))) :=
                fun ty => Lib.run_clear_slice wr 56 39 ty (.slice none 0 0) Tryz.underlying56 Tryz.zeroValue39 rfl rfl blk (off + kk) _ _ (by omega) (fun j hj => by rw [show off + kk + j = off + (kk + j) by omega, (hHk (kk + j) (by omega)).1]; rfl) (fun j hj => by rw [show off + kk + j = off + (kk + j) by omega]; exact (hHk (kk + j) (by omega)).2)
              have HW2 : Hid (wr = (putRow enc w blk off dk).drewN q2) := hwr
              clear hwr hHk
              have r1 : ¬ (kb : Int) + 1 < ((d.size - (k1 + 1) : Nat) : Int) := by omega
              go_wp2
              go_ret
              have hI := hI.out
              rw [hend] at hI
              have hkd : kk < d.size := by omega
              refine ⟨lay dk kk (List.replicate (d.size - kk) z), q2, kk, rfl, ?_, ?_, by omega, ?_⟩
              · rw [lay_size]; exact hds
              · rw [HW2.out]
                have := putRow_setCells enc w blk off (List.replicate (d.size - kk) z) dk kk (by simp; omega)
                rw [List.map_replicate, hz] at this
                rw [← this, setCells_drewN]
              · rw [← cf_done lst (by rw [lsts_size]; exact hI) hds]
                congr 1
                apply List.ext_getElem?
                intro i
                rw [List.getElem?_take, List.getElem?_take]
                by_cases h : i < kk
                · rw [if_pos h, if_pos h, Array.getElem?_toList, Array.getElem?_toList, lay_get? _ _ _ _ (by simp; omega), if_neg (by omega)]
                · rw [if_neg h, if_neg h]
        · have hd : decide (lst x = lst y) = false := decide_eq_false hdup
          rw [hd] at hc
          clear hd
          go_wp2_with fail
          go_quiet_o (first | (go_at_fn g; refine Calls.quiet_of (hc _)))
          go_wp2
          go_roundg (d.size - (k1 + 1 + 1))
          case measure => omega
          case rel =>
            refine ⟨k1 + 1 + 1, q + nq, by omega, by omega, Nat.le_refl _, by go_num, by rw [← HW.out, World.drewN_drewN], (show ∀ j, j < k1 + 1 + 1 → keeps (lsts lst d) j = true from fun j hj => ?_)⟩
            by_cases e : j = k1 + 1
            · subst e
              exact keeps_pos (by rw [B.out.1, Nat.add_sub_cancel, B.out.2]; exact hdup)
            · exact hall.out j (by omega)
      · have : k = d.size := by omega
        subst this
        go_wp2
        go_ret
        exact cf_same lst enc HH.out q hall.out
end Go.Proofs

/-! Srw -/
namespace Ovi
open Go Go.Proofs Go.RowKit Go.Sort Go.Lib Go.Shelf
/-- the shelf's law pays it, the comparison's contract given -/
theorem sortF_run {P : Program} {ρ : Ren} (L : SlLaysF.n6 P ρ) {g : FuncId} (eg : ∀ args w, (callFunc g args).run P w = .ok (.enter g args) w) (hC : CmpC P g) (w : World) (S : Nat → Prop) (blk cap : Nat) (d : Array (HdL w S)) (hS : ∀ k, S k → k < w.heap.size) (hn : ¬ S blk) (hH : Holds encH w blk 0 d) (hb : blk < w.heap.size) (hsz : d.size < 4611686018427387904) :
    Calls P (ρ.f 6) #[.slice (some ⟨blk, 0, none⟩) d.size cap, .func (.func g) #[] #[]] w fun e w' => e = .returned (.tuple #[]) ∧ ∃ (d' : Array (HdL w S)) (n : Nat) (os : Array Obj), PermIn 0 d.size d d' ∧ SortedIn (ltOf cmpH) 0 d.size d' ∧ w' = sortWorld encH w blk 0 n d' os :=
  Any.slices_SortFunc L encH (fun x => by
    obtain ⟨v, l, ⟨A, c, rfl, _⟩, _⟩ := x
    rfl) cmpH swoH g #[] blk 0 cap d w eg (fun m os dk hs x y => by
    have := hC (sortWorld encH w blk 0 m dk os) S (encH x) (encH y) (lstH x) (lstH y) (x.h.stab (stabS dk hS hn)) (y.h.stab (stabS dk hS hn)) x.b y.b
    exact this) hH hb hsz
end Ovi

/-! Rag -/
namespace Ovi
open Go Go.Proofs Go.RowKit Go.Sort Go.Lib
/-! ### slices.SortFunc and slices.CompactFunc on rows of facts whose values are one's own -/
def sortAGP (g : Nat) (args : Args) : Option Res := (atomArg g args).bind fun p => some [(false, [.frow p.1 2 1 (A1 (sortAtoms p.2))])]
def compAGP (g : Nat) (args : Args) : Option Res := (atomArg g args).bind fun p => cond (decide (Lib.compact p.2).Nodup) (some [(false, [.frow p.1 2 1 (A1 (Lib.compact p.2))]), (true, [])]) none
/-- beyond CompAC: what is kept are elements of the row, or zero -/
structure CompAI (P : Program) (f g : FuncId) : Prop where
  known : Known P f
  run : ∀ (w : World) (S : Nat → Prop) (blk cap : Nat) (d : Array (HdA w S)), (∀ k, S k → k < w.heap.size) → ¬ S blk → HoldsK encA 2 w blk 0 d → blk < w.heap.size → d.size < 4611686018427387904 → d.size ≤ cap →
    Calls P f #[.slice (some ⟨blk, 0, none⟩) d.size cap, .func (.func g) #[] #[]] w fun e w' => ∃ (dk : Array (HdA w S)) (kk n : Nat) (os : Array Obj), e = .returned (.slice (some ⟨blk, 0, none⟩) kk cap) ∧ dk.size = d.size ∧ w' = sortWorldK encA 2 w blk 0 n dk os ∧ kk ≤ d.size ∧ (dk.toList.take kk).map lstA = Lib.compact (d.toList.map lstA) ∧ ∀ h ∈ dk.toList, h ∈ d.toList ∨ lstA h = (0, [])
  nil : ∀ (A : Option Addr) (cap : Nat) (w : World), Calls P f #[.slice A 0 cap, .func (.func g) #[] #[]] w fun e w' => e = .returned (.slice A 0 cap) ∧ w' = w
section
variable {P : Program} {G : Gd} {w : World} {S T : Nat → Prop} {b e cap : Nat} {l : List Atom} {u : Value} {fs g : FuncId}
/-- where the cells of a kept element come from -/
theorem injA {cur : Array Value} {d dk : Array (HdA w S)} {kk i p c : Nat} {x : D} (hc : w.heap[b]? = some (.cells cur e (0, 0))) (hd : HoldsK encA 2 w b 0 d) (hcs : dk.size * 2 ≤ cur.size) (hk : kk ≤ dk.size) (hi : i < kk) (hp : p < d.size) (he : dk[i]? = d[p]?)
    (hx : cellD (A1 ((dk.toList.take kk).map lstA)) i c = some x) : cellD (A1 (d.toList.map lstA)) p c = some x ∧ ((putCells id 0 (flatK encA 2 dk) cur)[i * 2 + c]? = cur[p * 2 + c]? ∨ ∃ s, x = .list s []) := by
  have hi2 : i < dk.size := by omega
  obtain ⟨z, hz, hcx⟩ := A1_cell hx
  rw [List.getElem?_map, List.getElem?_take_of_lt hi, Array.getElem?_toList, he, ← Array.getElem?_toList, ← List.getElem?_map] at hz
  rw [Array.getElem?_eq_getElem hi2, Array.getElem?_eq_getElem hp, Option.some.injEq] at he
  have hcell : ∀ c, c < 2 → (putCells id 0 (flatK encA 2 dk) cur)[i * 2 + c]? = cur[p * 2 + c]? := by
    intro c hc2
    have hic : i * 2 + c < cur.size := by omega
    have hif : i * 2 + c < dk.size * 2 := by omega
    have hgf := get_flatK encA 2 dk (i * 2 + c) hif
    rw [show (i * 2 + c) / 2 = i by omega, show (i * 2 + c) % 2 = c by omega, getElem!_pos dk i hi2] at hgf
    have hpf : p * 2 + c < d.size * 2 := by omega
    have hgd := get_flatK encA 2 d (p * 2 + c) hpf
    rw [show (p * 2 + c) / 2 = p by omega, show (p * 2 + c) % 2 = c by omega, getElem!_pos d p hp] at hgd
    have hh := (hd (p * 2 + c) (by rw [size_flatK]; exact hpf)).1
    simp only [World.cell?, hc, Option.isSome_none, Bool.false_eq_true, if_false, Nat.zero_add, id, hgd] at hh
    rw [hh]
    simp only [putCells, Array.getElem?_mapIdx]
    rw [Array.getElem?_eq_getElem hic]
    simp only [Option.map_some, size_flatK, Nat.sub_zero, Nat.zero_le, Nat.zero_add, true_and, hif, if_true, id, hgf, he]
  rcases hcx with ⟨rfl, rfl⟩ | ⟨rfl, rfl⟩
  · exact ⟨A1_at0 hz, .inl (hcell 0 (by omega))⟩
  · exact ⟨A1_at1 hz, .inl (hcell 1 (by omega))⟩
theorem sortAG_sound (h : SortAC P fs g) {args : Args} {r : Res} (hr : sortAGP g args = some r) : PlainC P G fs args r ∧ ∀ k e sz xs rest, args = rawTag :: .d (.int k e) :: .d (.list sz xs) :: rest → ∀ e' : Nat, e = e' → RawC P fs e' sz xs rest r := by
  obtain ⟨⟨e0, l⟩, hra, hr⟩ := Option.bind_eq_some_iff.1 hr
  cases hr
  refine ⟨?_, fun k e sz xs rest hargs e' he => ?_⟩
  · obtain ⟨_, _, rfl⟩ := atomArg_isRaw hra
    exact plain_raw'
  · subst hargs
    obtain ⟨rfl, rfl, rfl, h4, hlen, hlz⟩ := atomArg_some hra
    simp only at h4 hlen hlz
    subst he h4
    refine Or.inl fun w S T mo u vs hS hT hrow hl => ?_
    obtain rfl := fn_arg hl
    simp only [Int.toNat_natCast]
    have hsl := sortAtoms_len l
    cases mo with
    | none =>
      obtain ⟨_, ⟨_, A, rfl⟩, hn⟩ := hrow
      have hz : l = [] := by simpa [A1] using hn
      subst hz
      refine (h.nil A w).mono fun ex w' ⟨h1, h2⟩ => ⟨_, h1, h2, fun _ => ⟨⟨by simp [A1, sortAtoms], rfl, ?_⟩, fun b cur cur' hb => by cases hb⟩⟩
      refine ⟨fun i x hx => by simp [A1, sortAtoms] at hx, ⟨by simp [A1, sortAtoms], A, rfl⟩, by simp [A1, sortAtoms]⟩
    | some b =>
      obtain ⟨_, ⟨cap, cur, rfl, hc, h1, h2, h3⟩, _, hnS, cur', hc', h5, h6⟩ := hrow
      rw [A1_len] at *
      rw [hc] at hc'
      cases hc'
      have hblk : b < w.heap.size := lt_of_blk hc
      obtain ⟨d, hd1, hds, hd2⟩ := takeA (S := S) hc hlz h6
      have hd3 := hd2 rfl
      have hcall := h.run w S b cap d hS hnS (hd2 rfl) hblk (by omega)
      rw [hds] at hcall
      refine hcall.mono fun ex w' ⟨k1, d', n, os, ⟨p1, _, p3⟩, k3, k4⟩ => ?_
      subst k4
      have hds' : d'.size = l.length := by rw [p1, hds]
      have hext : ∀ (a : Array (HdA w S)) (m : Nat), a.size = m → a.extract 0 m = a := fun a m hm => by subst hm; exact Array.extract_size
      rw [hext d' _ hds', hext d _ hds] at p3
      have hys : d'.toList.map lstA = sortAtoms l := by
        refine srtA_unique (by rw [← hd1]; exact p3.map _) ?_
        rw [List.pairwise_map, List.pairwise_iff_getElem]
        intro i j hi hj hij
        have hi' : i < d'.size := by simpa using hi
        have hj' : j < d'.size := by simpa using hj
        have := k3 i j (Nat.zero_le _) hij (by omega)
        rw [getElem!_pos d' j hj', getElem!_pos d' i hi'] at this
        exact this
      have hnew : (sortWorldK encA 2 w b 0 n d' os).heap[b]? = _ := heapS (enc := id) (n := n) (os := os) (flatK encA 2 d') hc
      have hcsz : (putCells id 0 (flatK encA 2 d') cur).size = cur.size := by simp [putCells]
      have h5' : l.length * 2 ≤ cur.size := h5
      have hput := putA (T := T) hS hnS hc d' n os d'.size (by omega) (Nat.le_refl _)
      rw [show d'.toList.take d'.size = d'.toList by rw [show d'.size = d'.toList.length by simp, List.take_length], hys] at hput
      refine ⟨_, k1, turnA hc d' n os, fun _ => ⟨⟨by rw [A1_len, A1_len, hsl], rfl, A1_rows _, ?_, Nat.zero_le _, hnS, _, hnew, by rw [A1_len, hsl, hcsz]; exact h5', hput⟩, ?_⟩⟩
      · rw [A1_len, hsl]
        exact ⟨cap, _, rfl, hnew, h1, h2, by rw [hcsz]; exact h3⟩
      · intro b1 c1 c2 hb1 hc1 hc2
        cases hb1
        rw [hc] at hc1
        cases hc1
        rw [hnew] at hc2
        cases hc2
        obtain ⟨π, q1, q2⟩ := perm_idx p3
        rw [A1_len, hsl]
        refine ⟨π, fun i i' hi hi' => q1 i i' (by simpa [hds'] using hi) (by simpa [hds'] using hi'), fun i hi c x hx => ?_⟩
        obtain ⟨e1, e2⟩ := q2 i (by simpa [hds'] using hi)
        rw [← hys, show d'.toList = d'.toList.take d'.size by rw [show d'.size = d'.toList.length by simp, List.take_length]] at hx
        rw [← hd1]
        exact injA hc hd3 (by omega) (Nat.le_refl _) (by omega) (by simpa using e2) (by simpa using e1) hx
theorem compAG_sound (h : CompAI P fs g) {args : Args} {r : Res} (hr : compAGP g args = some r) : PlainC P G fs args r ∧ ∀ k e sz xs rest, args = rawTag :: .d (.int k e) :: .d (.list sz xs) :: rest → ∀ e' : Nat, e = e' → RawC P fs e' sz xs rest r := by
  obtain ⟨⟨e0, l⟩, hra, hr⟩ := Option.bind_eq_some_iff.1 hr
  cases hnd : decide (Lib.compact l).Nodup with
  | false => simp only [hnd, cond_false] at hr; cases hr
  | true =>
  simp only [hnd, cond_true] at hr
  replace hnd := of_decide_eq_true hnd
  cases hr
  refine ⟨?_, fun k e sz xs rest hargs e' he => ?_⟩
  · obtain ⟨_, _, rfl⟩ := atomArg_isRaw hra
    exact plain_raw'
  · subst hargs
    obtain ⟨rfl, rfl, rfl, h4, hlen, hlz⟩ := atomArg_some hra
    simp only at h4 hlen hlz
    subst he h4
    refine Or.inl fun w S T mo u vs hS hT hrow hl => ?_
    obtain rfl := fn_arg hl
    simp only [Int.toNat_natCast]
    have hsl := compactA_len l
    cases mo with
    | none =>
      obtain ⟨_, ⟨_, A, rfl⟩, hn⟩ := hrow
      have hz : l = [] := by simpa [A1] using hn
      subst hz
      refine (h.nil A 0 w).mono fun ex w' ⟨h1, h2⟩ => ⟨_, h1, by subst h2; exact Below.refl _ _, fun _ => ⟨?_, fun b cur cur' hb => by cases hb⟩⟩
      exact ⟨fun i x hx => by simp [A1, Lib.compact, Lib.compactUpTo] at hx, ⟨by simp [A1, Lib.compact, Lib.compactUpTo], A, rfl⟩, by simp [A1, Lib.compact, Lib.compactUpTo]⟩
    | some b =>
      obtain ⟨_, ⟨cap, cur, rfl, hc, h1, h2, h3⟩, _, hnS, cur', hc', h5, h6⟩ := hrow
      rw [A1_len] at *
      rw [hc] at hc'
      cases hc'
      have hblk : b < w.heap.size := lt_of_blk hc
      obtain ⟨d, hd1, hds, hd2⟩ := takeA (S := S) hc hlz h6
      have hd3 := hd2 rfl
      have hcall := h.run w S b cap d hS hnS (hd2 rfl) hblk (by omega) (by have h1 : l.length ≤ cap := h1; omega)
      rw [hds] at hcall
      refine hcall.mono fun ex w' ⟨dk, kk, n, os, k1, k2, k3, k4, k5, k6⟩ => ?_
      rw [hd1] at k5
      subst k3
      have hnew : (sortWorldK encA 2 w b 0 n dk os).heap[b]? = _ := heapS (enc := id) (n := n) (os := os) (flatK encA 2 dk) hc
      have hcsz : (putCells id 0 (flatK encA 2 dk) cur).size = cur.size := by simp [putCells]
      have hkk : kk = (Lib.compact l).length := by
        rw [← k5]
        simp only [List.length_map, List.length_take, Array.length_toList]
        omega
      have h5' : l.length * 2 ≤ cur.size := h5
      have hput := putA (T := T) hS hnS hc dk n os kk (by omega) (by omega)
      rw [k5] at hput
      refine ⟨_, k1, turnA hc dk n os, fun _ => ⟨⟨A1_rows _, ?_, Nat.zero_le _, hnS, _, hnew, by rw [A1_len, hcsz]; omega, hput⟩, ?_⟩⟩
      · rw [A1_len, hkk]
        have h1 : l.length ≤ cap := h1
        exact ⟨cap, _, rfl, hnew, by omega, h2, by rw [hcsz]; exact h3⟩
      · intro b1 c1 c2 hb1 hc1 hc2
        cases hb1
        rw [hc] at hc1
        cases hc1
        rw [hnew] at hc2
        cases hc2
        have hget : ∀ j (hj : j < kk), (Lib.compact l)[j]? = some (lstA dk[j]) := fun j hj => by
          have hj2 : j < dk.size := by omega
          rw [← k5, List.getElem?_map, List.getElem?_take_of_lt hj]
          simp [hj2]
        have hmc : ∀ z, z ∈ Lib.compact l → z ∈ l := fun z hz => by
          unfold Lib.compact Lib.compactUpTo at hz
          simp only [List.mem_map, List.mem_filter, List.mem_range] at hz
          obtain ⟨i, ⟨hi, _⟩, rfl⟩ := hz
          rw [getElem!_pos _ i (by simpa using hi)]
          simp
        have ex1 : ∀ j : Nat, ∃ i : Nat, ∀ hj : j < kk, l[i]? = some (lstA dk[j]) ∧ (d[i]? = some dk[j] ∨ lstA dk[j] = (0, [])) := by
          intro j
          by_cases hj : j < kk
          · have hj2 : j < dk.size := by omega
            rcases k6 dk[j] (by simp) with hm | hm
            · obtain ⟨i, hi, e⟩ := List.mem_iff_getElem.1 hm
              have hi' : i < d.size := by simpa using hi
              refine ⟨i, fun _ => ⟨?_, .inl ?_⟩⟩
              · refine (congrArg (fun z : List Atom => z[i]?) hd1).symm.trans ?_
                show (List.map lstA d.toList)[i]? = _
                rw [List.getElem?_map, List.getElem?_eq_getElem hi, e]
                rfl
              · rw [Array.getElem?_eq_getElem hi']
                simpa using e
            · have hmem : lstA dk[j] ∈ l := hmc _ (List.mem_of_getElem? (hget j hj))
              obtain ⟨i, hi, e⟩ := List.mem_iff_getElem.1 hmem
              exact ⟨i, fun _ => ⟨by rw [List.getElem?_eq_getElem hi, e], .inr hm⟩⟩
          · exact ⟨0, fun h => absurd h hj⟩
        have ex2 := Classical.axiomOfChoice ex1
        obtain ⟨π, hπ⟩ := ex2
        rw [A1_len, ← hkk]
        refine ⟨π, fun i i' hi hi' he => ?_, fun i hi c x hx => ?_⟩
        · have g1 := (hπ i hi).1
          have g2 := (hπ i' hi').1
          rw [he, g2] at g1
          have g3 := hget i hi
          have g4 := hget i' hi'
          replace g1 := Option.some.inj g1
          rw [g1] at g4
          exact (List.getElem?_inj (i := i) (by rw [← hkk]; exact hi) hnd).1 (g3.trans g4.symm)
        · obtain ⟨q1, q2⟩ := hπ i hi
          have hi2 : i < dk.size := by omega
          rcases q2 with q2 | q2
          · have hpi : π i < d.size := (Array.getElem?_eq_some_iff.1 q2).1
            rw [← k5] at hx
            rw [← hd1]
            exact injA (kk := kk) hc hd3 (by omega) (by omega) (by omega) hpi (by rw [Array.getElem?_eq_getElem hi2, q2]) hx
          · obtain ⟨z, hz, hcx⟩ := A1_cell hx
            rw [hget i hi, q2] at hz
            cases hz
            rw [q2] at q1
            rcases hcx with ⟨rfl, rfl⟩ | ⟨rfl, rfl⟩
            · refine ⟨A1_at0 q1, .inl ?_⟩
              obtain ⟨_, v0, hv0, hr0⟩ := h6 (π i) 0 _ (A1_at0 q1)
              obtain ⟨_, v1, hv1, hr1⟩ := hput i 0 _ hx
              rw [hv0, hv1, RD.int_eq hr0, RD.int_eq hr1]
            · exact ⟨A1_at1 q1, .inr ⟨1, rfl⟩⟩
theorem SortAC.okG (h : SortAC P fs g) : PrimOk P G fs (sortAGP g) := ⟨h.known, (fun args r hr => (sortAG_sound h hr).1), (fun k e sz xs rest r hr e' he => (sortAG_sound (G := noG) h hr).2 k e sz xs rest rfl e' he), fun b k xs r hr => by first | (cases hr; done) | (unfold sortAGP at hr; (first | (cases hr; done) | (split at hr <;> cases hr; done) | (cases xs <;> cases hr; done) | (simp at hr; done)))⟩
theorem CompAI.ok (h : CompAI P fs g) : PrimOk P G fs (compAGP g) := ⟨h.known, (fun args r hr => (compAG_sound h hr).1), (fun k e sz xs rest r hr e' he => (compAG_sound (G := noG) h hr).2 k e sz xs rest rfl e' he), fun b k xs r hr => by first | (cases hr; done) | (unfold compAGP at hr; obtain ⟨q, h1, _⟩ := Option.bind_eq_some_iff.1 hr; obtain ⟨e, xs', h2⟩ := atomArg_isRaw h1; cases h2)⟩
end
end Ovi

/-! Ixs -/
namespace Ovi
open Go Go.Proofs Go.RowKit Go.Sort Go.Lib
/-! ### A row as the numbers of its elements: what a walk that knows nothing of the elements leaves are elements of the row, or zero -/
section
variable {α β : Type} [Inhabited α] [Inhabited β]
def ixs (d : Array α) : Array (Option (Fin d.size)) := Array.ofFn fun i => some i
omit [Inhabited α] in
theorem ixs_size (d : Array α) : (ixs d).size = d.size := by simp [ixs]
def decX (z : α) (d : Array α) : Option (Fin d.size) → α
  | none => z
  | some i => d[i]
omit [Inhabited α] in
theorem ixs_dec (z : α) (d : Array α) : (ixs d).map (decX z d) = d := by
  apply Array.ext
  · simp [ixs]
  · intro i h1 h2
    simp [ixs, decX]
theorem flatK_dec (enc : α → List Value) (g : β → α) (k : Nat) (dk : Array β) : flatK (fun x => enc (g x)) k dk = flatK enc k (dk.map g) := by
  unfold flatK
  rw [Array.size_map]
  apply Array.map_congr_left
  intro t ht
  have ht : t < dk.size * k := by simpa using ht
  have hk : 0 < k := by
    rcases Nat.eq_zero_or_pos k with h | h
    · subst h; simp at ht
    · exact h
  have h1 : t / k < dk.size := Nat.div_lt_of_lt_mul (by rwa [Nat.mul_comm])
  rw [getElem!_pos dk _ h1, getElem!_pos (dk.map g) _ (by simpa using h1), Array.getElem_map]
theorem sortWorldK_dec (enc : α → List Value) (g : β → α) (k : Nat) (w : World) (b n : Nat) (dk : Array β) (os : Array Obj) : sortWorldK (fun x => enc (g x)) k w b 0 n dk os = sortWorldK enc k w b 0 n (dk.map g) os := by
  unfold sortWorldK putRowK
  rw [flatK_dec]
theorem putCells_dec (enc : α → Value) (g : β → α) (o : Nat) (dk : Array β) (c : Array Value) : putCells (fun x => enc (g x)) o dk c = putCells enc o (dk.map g) c := by
  unfold putCells
  congr 1
  funext k x
  rw [Array.size_map]
  by_cases h : o ≤ k ∧ k < o + dk.size
  · rw [if_pos h, if_pos h, getElem!_pos dk _ (by omega), getElem!_pos (dk.map g) _ (by simp; omega), Array.getElem_map]
  · rw [if_neg h, if_neg h]
theorem putRow_dec (enc : α → Value) (g : β → α) (w : World) (b o : Nat) (dk : Array β) : putRow (fun x => enc (g x)) w b o dk = putRow enc w b o (dk.map g) := by
  unfold putRow
  congr 1
  funext c
  exact putCells_dec enc g o dk c
theorem holds_dec (enc : α → Value) (g : β → α) (w : World) (b o : Nat) (dk : Array β) (h : Holds enc w b o (dk.map g)) : Holds (fun x => enc (g x)) w b o dk := by
  intro j hj
  have := h j (by simpa using hj)
  rw [getElem!_pos (dk.map g) _ (by simpa using hj), Array.getElem_map] at this
  rw [getElem!_pos dk _ hj]
  exact this
omit [Inhabited α] in
theorem dec_mem (z : α) (d : Array α) (dk : Array (Option (Fin d.size))) : ∀ h ∈ (dk.map (decX z d)).toList, h ∈ d.toList ∨ h = z := by
  intro h hh
  rw [Array.toList_map, List.mem_map] at hh
  obtain ⟨x, _, rfl⟩ := hh
  cases x with
  | none => exact .inr rfl
  | some i => exact .inl (by simp [decX])
omit [Inhabited α] in
theorem dec_take {γ : Type} (z : α) (d : Array α) (dk : Array (Option (Fin d.size))) (kk : Nat) (lst : α → γ) : (dk.toList.take kk).map (fun x => lst (decX z d x)) = ((dk.map (decX z d)).toList.take kk).map lst := by
  rw [Array.toList_map, ← List.map_take, List.map_map]
  rfl
omit [Inhabited α] in
theorem dec_all {γ : Type} (z : α) (d : Array α) (lst : α → γ) : (ixs d).toList.map (fun x => lst (decX z d x)) = d.toList.map lst := by
  have := congrArg Array.toList (ixs_dec z d)
  rw [Array.toList_map] at this
  conv => rhs; rw [← this, List.map_map]
  rfl
end
end Ovi

/-! URs -/
namespace Go.Proofs
open Go.Shelf Go.RowKit Go.Lib Go.Sort Ovi
theorem sortedH {w : World} {S : Nat → Prop} {d d' : Array (HdL w S)} (h1 : PermIn 0 d.size d d') (h2 : SortedIn (ltOf cmpH) 0 d.size d') : d'.size = d.size ∧ d'.toList.map lstH = sortLists (d.toList.map lstH) ∧ ∀ h ∈ d'.toList, h ∈ d.toList := by
  obtain ⟨p1, _, p3⟩ := h1
  have hext : ∀ (a : Array (HdL w S)) (m : Nat), a.size = m → a.extract 0 m = a := fun a m hm => by subst hm; exact Array.extract_size
  rw [hext d' _ p1, hext d _ rfl] at p3
  refine ⟨p1, srt_unique (p3.map _) ?_, fun h hh => p3.mem_iff.1 hh⟩
  rw [List.pairwise_map, List.pairwise_iff_getElem]
  intro i j hi hj hij
  have hi' : i < d'.size := by simpa using hi
  have hj' : j < d'.size := by simpa using hj
  have := h2 i j (Nat.zero_le _) hij (by omega)
  rw [getElem!_pos d' j hj', getElem!_pos d' i hi'] at this
  exact this
theorem oneH {w : World} {S : Nat → Prop} : OneCell (encH (w := w) (S := S)) := fun x => by
  obtain ⟨v, l, ⟨A, c, rfl, _⟩, _⟩ := x
  rfl
def CfPostI {w0 : World} {S : Nat → Prop} (w : World) (blk cap : Nat) (d : Array (HdL w0 S)) (e : Ending) (w' : World) : Prop :=
  ∃ (dk : Array (HdL w0 S)) (q kk : Nat), e = .returned (.slice (some ⟨blk, 0, none⟩) kk cap) ∧ dk.size = d.size ∧ w' = (putRow encH w blk 0 dk).drewN q ∧ kk ≤ d.size ∧ (dk.toList.take kk).map lstH = Lib.compact (d.toList.map lstH) ∧ ∀ h ∈ dk.toList, h ∈ d.toList ∨ lstH h = []
set_option maxHeartbeats 4000000 in
set_option maxRecDepth 1000000 in
theorem Tryz.rowsSet (hsort : ∀ (w : World) (S : Nat → Prop) (blk cap : Nat) (d : Array (HdL w S)), (∀ k, S k → k < w.heap.size) → ¬ S blk → Holds encH w blk 0 d → blk < w.heap.size → d.size < 4611686018427387904 →
      Calls Tryz.prog 234 #[.slice (some ⟨blk, 0, none⟩) d.size cap, .func (.func 226) #[] #[]] w fun e w' => e = .returned (.tuple #[]) ∧ ∃ (d' : Array (HdL w S)) (n : Nat) (os : Array Obj), PermIn 0 d.size d d' ∧ SortedIn (ltOf cmpH) 0 d.size d' ∧ w' = sortWorld encH w blk 0 n d' os)
    (w : World) (S : Nat → Prop) (blk cap : Nat) (d : Array (HdL w S)) (hS : ∀ k, S k → k < w.heap.size) (hn : ¬ S blk) (hH : Holds encH w blk 0 d) (hb : blk < w.heap.size) (hsz : d.size < 4611686018427387904) (hcap : d.size ≤ cap) :
    Calls Tryz.prog 181 #[.slice (some ⟨blk, 0, none⟩) d.size cap] w (RsPostI w S blk cap d) := by
  have h1 := hsort w S blk cap d hS hn hH hb hsz
  have h2 : ∀ (d1 : Array (HdL w S)) (n : Nat) (os : Array Obj), d1.size = d.size → Calls Tryz.prog 235 #[.slice (some ⟨blk, 0, none⟩) d.size cap, .func (.func 236) #[] #[]] (sortWorld encH w blk 0 n d1 os) (CfPostI (sortWorld encH w blk 0 n d1 os) blk cap d1) := by
    intro d1 n os hd1
    rw [← hd1]
    have hst1 := stabS (enc := encH) (n := n) (os := os) d1 hS hn
    have hS1 : ∀ k, S k → k < (sortWorld encH w blk 0 n d1 os).heap.size := fun k hk => by
      have := hS k hk
      simp only [sortWorld, grow, putRow, mapBlock, Sort.ahead, Array.size_append, Array.size_modify]
      omega
    have hH1 : Holds encH (sortWorld encH w blk 0 n d1 os) blk 0 d1 := by
      have : sortWorld encH w blk 0 n d1 os = grow (putRow encH (Sort.ahead w n) blk 0 d1) os := rfl
      rw [this]
      exact holds_grow _ _ _ _ _ _ (by simpa [putRow, mapBlock, Sort.ahead] using hb) (holds_putRow encH (Sort.ahead w n) blk 0 d d1 (holds_ahead encH w n blk 0 d hH) hd1)
    have hc := Tryz.compactFunc (fun x => encH (decX default d1 x)) (fun x => oneH _) (fun x => lstH (decX default d1 x)) none rfl 236 blk 0 cap (ixs d1) (sortWorld encH w blk 0 n d1 os) (enters_of Tryz.func236 (by kernel_rfl) rfl) (fun m dk hdk x y => by
      rw [putRow_dec]
      have hst2 := stabS (enc := encH) (w := sortWorld encH w blk 0 n d1 os) (n := m) (os := #[]) (dk.map (decX default d1)) hS1 hn
      have := Tryz.eqC (sortWorld encH (sortWorld encH w blk 0 n d1 os) blk 0 m (dk.map (decX default d1)) #[]) S (encH (decX default d1 x)) (encH (decX default d1 y)) (lstH (decX default d1 x)) (lstH (decX default d1 y)) ((decX default d1 x).h.stab (hst1.trans hst2)) ((decX default d1 y).h.stab (hst1.trans hst2)) (decX default d1 x).b (decX default d1 y).b
      rw [sortWorld_none] at this
      exact this) (holds_dec encH (decX default d1) _ blk 0 (ixs d1) (by rw [ixs_dec]; exact hH1)) (by rw [ixs_size]; omega) (by rw [ixs_size]; omega)
    rw [ixs_size] at hc
    refine hc.mono fun e w' ⟨dk, q, kk, k1, k2, k3, k4, k5⟩ => ⟨dk.map (decX default d1), q, kk, k1, by rw [Array.size_map, k2, ixs_size], by rw [k3, putRow_dec], by rw [ixs_size] at k4; exact k4, ?_, fun h hh => ?_⟩
    · rw [← dec_take, k5, dec_all]
    · rcases dec_mem default d1 dk h hh with hm | rfl
      · exact .inl hm
      · exact .inr rfl
  have H2 : Aside _ := h2
  clear h2 hsort hH
  go_enter Tryz.func181, Tryz.ntmps181
  go_wp2_with (go_at_call 234; refine h1.mono ?_; rintro e w1 ⟨rfl, hp⟩)
  obtain ⟨d1, n, os, p1, p2, hw1⟩ := hp
  obtain ⟨q1, q2, q3⟩ := sortedH p1 p2
  subst hw1
  refine (H2.out d1 n os q1).mono ?_
  rintro e w2 ⟨dk, q, kk, rfl, k2, k3, k4, k5, k6⟩
  have R : Hid (RsPostI w S blk cap d (.returned (.slice (some ⟨blk, 0, none⟩) kk cap)) w2) := ⟨d1, dk, n, q, kk, os, rfl, q1, by omega, by rw [k3, sortWorld_none], by omega, by rw [k5, q2], fun h hh => (k6 h hh).imp (q3 h) fun h => h⟩
  clear k2 k3 k4 k5 k6 q1 q2 q3 p1 p2 H2 h1
  go_wp2
  go_ret
  exact R.out
end Go.Proofs

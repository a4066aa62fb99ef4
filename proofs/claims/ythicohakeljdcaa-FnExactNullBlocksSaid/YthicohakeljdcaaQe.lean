/-
For every instance the law FnExactNullBlocks returns true, and the instance reads afterwards as it read before. No condition.
-/
import Derived.Test.YthicohakeljdcaaQd
import Derived.Test.YthicohakeljdcaaQc
import Derived.Test.YthicohakeljdcaaProg
import Derived.Shelf.RegionOpenPlain
import Derived.Deep.LoopGhost
import Derived.WalkKit
import Derived.KernelRfl
import Derived.Shelf.Small.Wraps
import Derived.Shelf.Sort.Plain
import Derived.Ground.Names2Prog
import Derived.Shelf.Slices.Clone
import Derived.Shelf.Slices.CompactI
import Derived.Ground.SlgnProg
import Derived.Shelf.SlicesE.Clone
import Derived.Ground.SlsfProg
import Derived.Shelf.SlSortCmp.Whole1
import Derived.Lib.Walk
import Derived.Test.YthicohakeljdcaaRows
set_option linter.unusedVariables false
set_option linter.unusedSimpArgs false
/-! PIb -/
namespace Go.Proofs.Ythicohakeljdcaa.Q
open Go Ovi
variable {k : Nat}
/-! ### the order of facts -/
def cmpI : List Int → List Int → Int
  | [], [] => 0
  | [], _ :: _ => -1
  | _ :: _, [] => 1
  | x :: xs, y :: ys => if x < y then -1 else if x > y then 1 else cmpI xs ys
def io (n : Int) : Option Res := some [(false, [.d (.int .i64 n)])]
theorem iB' (n : Int) (f : Int → Option Res) : (bindR (io n) fun r => bindI (resI .i64 1 false 1 r 0 0) f) = f n := rfl
/-- cmp.Compare -/
def cmp1 (x y : Int) : Int := if x < y then -1 else if x > y then 1 else 0
theorem c88 (x y : Int) : C (k + 2) 88 [.d (.int .i64 x), .d (.int .i64 y)] = io (cmp1 x y) := by
  rw [F88.run, F120.run, F120.run]
  simp only [bne_self_eq_false, bindR_s, resB_s, bindB_s]
  rw [ite'_f rfl, ite'_f rfl]
  unfold cmp1
  by_cases h : x < y
  · rw [ite'_t (by simpa using h), if_pos h]; rfl
  · rw [ite'_f (by simpa using h), if_neg h]
    by_cases h' : x > y
    · rw [ite'_t (by simpa using h'), if_pos h']; rfl
    · rw [ite'_f (by simpa using h'), if_neg h']; rfl
theorem cmpI_drop {a b : List Int} {i : Nat} (ha : i < a.length) (hb : i < b.length) : cmpI (a.drop i) (b.drop i) = if a[i] < b[i] then -1 else if a[i] > b[i] then 1 else cmpI (a.drop (i + 1)) (b.drop (i + 1)) := by
  rw [List.drop_eq_getElem_cons ha, List.drop_eq_getElem_cons hb]
  rfl
/-- slices.Compare on integers -/
theorem c59 (a b : List Int) (hk : a.length < k) (ha : a.length ≤ maxLen) : C (k + 3) 59 [.d (.list 1 (I1 a)), .d (.list 1 (I1 b))] = io (cmpI a b) := by
  rw [F59.run, I1_len]
  have main : ∀ (m i n : Nat), i + m = a.length → m < n → i ≤ b.length → F59.L2 (k + 2) (C (k + 2)) n (I1 a) (I1 b) (I1 a) (a.length : Int) (i : Int) = io (cmpI (a.drop i) (b.drop i)) := by
    intro m
    induction m with
    | zero =>
      intro i n hm hn hb
      obtain ⟨n, rfl⟩ : ∃ j, n = j + 1 := ⟨n - 1, by omega⟩
      obtain rfl : i = a.length := by omega
      rw [F59.L2.succ, ite'_f (lt_f (by omega)), I1_len, I1_len, List.drop_eq_nil_of_le (Nat.le_refl _)]
      by_cases h : a.length < b.length
      · rw [ite'_t (lt_t h), List.drop_eq_getElem_cons h]; rfl
      · rw [ite'_f (lt_f h), List.drop_eq_nil_of_le (by omega)]; rfl
    | succ m ih =>
      intro i n hm hn hb
      obtain ⟨n, rfl⟩ : ∃ j, n = j + 1 := ⟨n - 1, by omega⟩
      have hi : i < a.length := by omega
      have hx := List.getElem?_eq_getElem hi
      rw [F59.L2.succ, ite'_t (lt_t hi), I1_len, ite'_t (inR_t hi)]
      simp only [Int.toNat_natCast, cellI_at (I1_get' hx), List.getElem?_cons_zero, Option.bind_some, asI_s, bindI_s]
      rw [I1_len]
      by_cases h : i < b.length
      · have hy := List.getElem?_eq_getElem h
        rw [ite'_f (b := decide ((i : Int) ≥ (b.length : Int))) (by simp; omega), ite'_t (inR_t h)]
        simp only [cellI_at (I1_get' hy), List.getElem?_cons_zero, Option.bind_some, asI_s, bindI_s]
        rw [c88, iB', cmpI_drop hi h, next_i hi ha, ih (i + 1) n (by omega) (by omega) (by omega)]
        unfold cmp1
        by_cases h1 : a[i] < b[i]
        · rw [if_pos h1, if_pos h1]; rfl
        · rw [if_neg h1, if_neg h1]
          by_cases h2 : a[i] > b[i]
          · rw [if_pos h2, if_pos h2]; rfl
          · rw [if_neg h2, if_neg h2]; rfl
      · rw [ite'_t (b := decide ((i : Int) ≥ (b.length : Int))) (by simp; omega), List.drop_eq_getElem_cons hi, show b.drop i = [] from List.drop_eq_nil_of_le (by omega)]
        rfl
  exact main a.length 0 (k + 2) (by omega) (by omega) (by omega)
/-- spec.l4Ints -/
theorem c92 (a b : List Int) (hk : a.length < k) (ha : a.length ≤ maxLen) : C (k + 1) 92 [.d (.list 1 (I1 a)), .d (.list 1 (I1 b))] = io (cmpI a b) := by
  rw [F92.run]
  have fin : ∀ (i n : Nat), i ≤ a.length → i ≤ b.length → (¬ i < a.length ∨ ¬ i < b.length) → F92.L2 k (C k) (n + 1) (I1 a) (I1 b) (i : Int) = io (cmpI (a.drop i) (b.drop i)) := by
    intro i n h1 h2 h3
    have e : F92.L2 k (C k) (n + 1) (I1 a) (I1 b) (i : Int) = ite' (decide ((a.length : Int) < (b.length : Int))) (io (-1)) (ite' (decide ((a.length : Int) > (b.length : Int))) (io 1) (io 0)) := by
      rw [F92.L2.succ, I1_len, I1_len]
      by_cases hi : i < a.length
      · rw [ite'_t (lt_t hi), ite'_f (lt_f (by omega))]; rfl
      · rw [ite'_f (lt_f hi)]; rfl
    rw [e]
    rcases Nat.lt_trichotomy a.length b.length with h | h | h
    · obtain rfl : i = a.length := by omega
      rw [ite'_t (by simp; omega), List.drop_eq_nil_of_le (Nat.le_refl _), List.drop_eq_getElem_cons h]
      rfl
    · rw [ite'_f (by simp; omega), ite'_f (by simp; omega), List.drop_eq_nil_of_le (by omega), List.drop_eq_nil_of_le (by omega)]
      rfl
    · obtain rfl : i = b.length := by omega
      rw [ite'_f (by simp; omega), ite'_t (by simp; omega), List.drop_eq_nil_of_le (Nat.le_refl _), List.drop_eq_getElem_cons h]
      rfl
  have main : ∀ (m i n : Nat), i + m = a.length → m < n → i ≤ b.length → F92.L2 k (C k) n (I1 a) (I1 b) (i : Int) = io (cmpI (a.drop i) (b.drop i)) := by
    intro m
    induction m with
    | zero =>
      intro i n hm hn hb
      obtain ⟨n, rfl⟩ : ∃ j, n = j + 1 := ⟨n - 1, by omega⟩
      exact fin i n (by omega) hb (by omega)
    | succ m ih =>
      intro i n hm hn hb
      obtain ⟨n, rfl⟩ : ∃ j, n = j + 1 := ⟨n - 1, by omega⟩
      by_cases h : i < b.length
      · have hi : i < a.length := by omega
        have hx := List.getElem?_eq_getElem hi
        have hy := List.getElem?_eq_getElem h
        rw [F92.L2.succ, I1_len, I1_len, ite'_t (lt_t hi), ite'_t (lt_t h), ite'_t (inR_t hi)]
        simp only [Int.toNat_natCast, cellI_at (I1_get' hx), cellI_at (I1_get' hy), List.getElem?_cons_zero, Option.bind_some, asI_s, bindI_s]
        rw [ite'_t (inR_t h), ite'_t (inR_t hi), ite'_t (inR_t h), next_i hi ha, ih (i + 1) n (by omega) (by omega) (by omega), cmpI_drop hi h]
        by_cases h1 : a[i] < b[i]
        · rw [ite'_t (by simpa using h1), if_pos h1]; rfl
        · rw [ite'_f (by simpa using h1), if_neg h1]
          by_cases h2 : a[i] > b[i]
          · rw [ite'_t (by simpa using h2), if_pos h2]; rfl
          · rw [ite'_f (by simpa using h2), if_neg h2]
      · exact fin i n (by omega) hb (by omega)
  exact main a.length 0 k (by omega) hk (by omega)
def cmpF (x y : Atom) : Int := if x.1 < y.1 then -1 else if x.1 > y.1 then 1 else cmpI x.2 y.2
/-- spec.CompareFacts -/
theorem c64 (x y : Atom) (hk : x.2.length < k) (ha : x.2.length ≤ maxLen) : C (k + 2) 64 [.agg [.d (.int .i64 x.1), .d (.list 1 (I1 x.2))], .agg [.d (.int .i64 y.1), .d (.list 1 (I1 y.2))]] = io (cmpF x y) := by
  rw [F64.run, c92 x.2 y.2 hk ha, iB']
  unfold cmpF
  by_cases h1 : x.1 < y.1
  · rw [ite'_t (by simpa using h1), if_pos h1]; rfl
  · rw [ite'_f (by simpa using h1), if_neg h1]
    by_cases h2 : x.1 > y.1
    · rw [ite'_t (by simpa using h2), if_pos h2]; rfl
    · rw [ite'_f (by simpa using h2), if_neg h2]; rfl
/-- cmp.Or of two -/
theorem c98 (x y : Int) : C (k + 4) 98 [.d (.list 1 [[.int .i64 x], [.int .i64 y]])] = io (if x = 0 then y else x) := by
  rw [F98.run]
  have s0 : ∀ n, F98.L3 (k + 3) (C (k + 3)) (n + 1) 0 [[.int .i64 x], [.int .i64 y]] 2 0 = ite' (x != 0) (io x) (F98.L3 (k + 3) (C (k + 3)) n 0 [[.int .i64 x], [.int .i64 y]] 2 1) := fun n => by rw [F98.L3.succ]; rfl
  have s1 : ∀ n, F98.L3 (k + 3) (C (k + 3)) (n + 1) 0 [[.int .i64 x], [.int .i64 y]] 2 1 = ite' (y != 0) (io y) (F98.L3 (k + 3) (C (k + 3)) n 0 [[.int .i64 x], [.int .i64 y]] 2 2) := fun n => by rw [F98.L3.succ]; rfl
  have s2 : ∀ n, F98.L3 (k + 3) (C (k + 3)) (n + 1) 0 [[.int .i64 x], [.int .i64 y]] 2 2 = io 0 := fun n => by rw [F98.L3.succ]; rfl
  show F98.L3 (k + 3) (C (k + 3)) (k + 2 + 1) 0 [[.int .i64 x], [.int .i64 y]] 2 0 = _
  rw [s0, s1, s2]
  by_cases h : x = 0
  · rw [if_pos h, ite'_f (by simpa using h)]
    by_cases h' : y = 0
    · rw [ite'_f (by simpa using h'), h']
    · rw [ite'_t (by simpa using h')]
  · rw [if_neg h, ite'_t (by simpa using h)]
/-- impl.CompareFacts -/
theorem c72 (x y : Atom) (hk : x.2.length < k) (ha : x.2.length ≤ maxLen) : C (k + 5) 72 [.agg [.d (.int .i64 x.1), .d (.list 1 (I1 x.2))], .agg [.d (.int .i64 y.1), .d (.list 1 (I1 y.2))]] = io (cmpF x y) := by
  rw [F72.run, c88, iB', c59 (k := k + 1) x.2 y.2 (by omega) ha, iB', c98, iB']
  unfold cmpF cmp1
  by_cases h1 : x.1 < y.1
  · rw [if_pos h1, if_pos h1]; rfl
  · rw [if_neg h1, if_neg h1]
    by_cases h2 : x.1 > y.1
    · rw [if_pos h2, if_pos h2]; rfl
    · rw [if_neg h2, if_neg h2]; rfl
/-! ### valid facts -/
def FactB (a : Ovi.Rows) (x : Atom) (b : Bool) : Prop := (b = true → 0 ≤ x.1 ∧ x.1 < (a.length : Int)) ∧ ∀ k, a.length < k → x.2.length < k → C (k + 6) 71 [.d (.list 3 a), .agg [.d (.int .i64 x.1), .d (.list 1 (I1 x.2))]] = bo b ∧ C (k + 6) 63 [.d (.list 3 a), .agg [.d (.int .i64 x.1), .d (.list 1 (I1 x.2))]] = bo b
theorem factB {a : Ovi.Rows} (ha : Fit Rl (.list 3 a)) (x : Atom) (hI : ∀ z ∈ x.2, inI z) (hx2 : x.2.length ≤ maxLen) : ∃ b, FactB a x b := by
  have hlen := ha.len
  unfold maxLen at hlen
  obtain ⟨b, hb⟩ := rels ha
  have e : ∀ k, a.length < k → C (k + 5) 70 [.d (.list 3 a)] = bo b ∧ C (k + 5) 65 [.d (.list 3 a)] = bo b := fun k hk => hb (k + 2) (by omega)
  cases b with
  | false =>
    refine ⟨false, fun h => (by cases h), fun k hk hx => ?_⟩
    rw [F71.run, F63.run, (e k hk).1, (e k hk).2, bB, bB]
    exact ⟨rfl, rfl⟩
  | true =>
    by_cases hr : 0 ≤ x.1 ∧ x.1 ≤ (a.length : Int) - 1
    · obtain ⟨i, hi⟩ : ∃ i : Nat, x.1 = i := ⟨x.1.toNat, by omega⟩
      have hia : i < a.length := by omega
      obtain ⟨row, hrow, hfr, _⟩ := ha.row hia
      obtain ⟨d0, r0, rfl, f0, h1⟩ := Fits.cons hfr
      obtain ⟨d1, r1, rfl, f1, h1⟩ := Fits.cons h1
      obtain ⟨n, rfl, _⟩ := f1.int
      have hcn : cellI .i64 a ((i : Int)).toNat 1 = some n := by rw [Int.toNat_natCast, cellI_at hrow]; simp [asI_s]
      by_cases hn : ((I1 x.2).length : Int) = n
      · refine ⟨!(x.2.any fun t => !okV t), fun _ => by omega, fun k hk hx => ?_⟩
        rw [F71.run, F63.run, (e k hk).1, (e k hk).2, bB, bB, ite'_nt, ite'_nt, c95, c90, bB, bB, wrap_id (by omega) (by omega), decide_eq_true hr, ite'_nt, ite'_nt, hi, ite'_t (inR_t hia), ite'_t (inR_t hia), hcn]
        simp only [bindI_s]
        rw [ite'_f (by simpa using hn), ite'_f (b := ((I1 x.2).length : Int) != n) (by simpa using hn)]
        have e69 := c53 (k := k + 3) x.2 96 [] (fun t => !okV t) (by omega) hx2 (fun z _ => by
          rw [List.map_nil, F96.run, c97, bB]; rfl)
        rw [e69, bB]
        refine ⟨rfl, ?_⟩
        have := loop_any (xs := x.2) (L := fun m j => F63.L4 (k + 5) (C (k + 5)) m j (i : Int) (I1 x.2)) (stop := fun t => !okV t) (hit := bo false) (fin := bo true)
          (fun m j t ht => by
            have hj := (List.getElem?_eq_some_iff.1 ht).1
            rw [F63.L4.succ, I1_len, ite'_t (lt_t hj), ite'_t (inR_t hj)]
            simp only [Int.toNat_natCast, cellI_at (I1_get' ht), List.getElem?_cons_zero, Option.bind_some, asI_s, bindI_s]
            rw [c91 (hI t (List.mem_of_getElem? ht)), bB, next_i hj hx2]; rfl)
          (fun m => by rw [F63.L4.succ, I1_len, ite'_f (lt_f (by omega))]; rfl) (k + 5) (by omega)
        rw [show F63.L4 (k + 5) (C (k + 5)) (k + 5) 0 (i : Int) (I1 x.2) = _ from this]
        cases x.2.any (fun t => !okV t) <;> rfl
      · refine ⟨false, fun h => (by cases h), fun k hk hx => ?_⟩
        rw [F71.run, F63.run, (e k hk).1, (e k hk).2, bB, bB, ite'_nt, ite'_nt, c95, c90, bB, bB, wrap_id (by omega) (by omega), decide_eq_true hr, ite'_nt, ite'_nt, hi, ite'_t (inR_t hia), ite'_t (inR_t hia), hcn]
        simp only [bindI_s]
        rw [ite'_t (by simpa using hn), ite'_t (b := ((I1 x.2).length : Int) != n) (by simpa using hn)]
        exact ⟨rfl, rfl⟩
    · refine ⟨false, fun h => (by cases h), fun k hk hx => ?_⟩
      rw [F71.run, F63.run, (e k hk).1, (e k hk).2, bB, bB, ite'_nt, ite'_nt, c95, c90, bB, bB, wrap_id (by omega) (by omega), decide_eq_false hr]
      exact ⟨rfl, rfl⟩
def src (a : Ovi.Rows) (x : Atom) : Bool := match a[x.1.toNat]? with
  | some [_, _, .bool b] => b
  | _ => false
theorem src_cell {a : Ovi.Rows} (ha : Fit Rl (.list 3 a)) {x : Atom} (h : 0 ≤ x.1 ∧ x.1 < (a.length : Int)) : inR x.1 a.length = true ∧ cellB a x.1.toNat 2 = some (src a x) := by
  obtain ⟨i, hi⟩ : ∃ i : Nat, x.1 = i := ⟨x.1.toNat, by omega⟩
  have hia : i < a.length := by omega
  obtain ⟨row, hrow, hfr, _⟩ := ha.row hia
  obtain ⟨d0, r0, rfl, f0, h1⟩ := Fits.cons hfr
  obtain ⟨d1, r1, rfl, f1, h1⟩ := Fits.cons h1
  obtain ⟨d2, r2, rfl, f2, h1⟩ := Fits.cons h1
  obtain rfl := Fits.nil h1
  obtain ⟨b, rfl⟩ := f2.bool
  rw [hi]
  refine ⟨inR_t hia, ?_⟩
  rw [Int.toNat_natCast, cellB_at hrow]
  unfold src
  rw [hi, Int.toNat_natCast, hrow]
  rfl
theorem len_terms {xs : List Atom} {x : Atom} (h : x ∈ xs) : x.2.length ≤ terms xs := by
  induction xs with
  | nil => cases h
  | cons y ys ih =>
    have e : terms (y :: ys) = y.2.length + terms ys := by simp [terms]
    rw [e]
    rcases List.mem_cons.1 h with rfl | h
    · omega
    · have := ih h; omega
/-- both IsValidInstance answer alike -/
theorem instB {a : Ovi.Rows} (ha : Fit Rl (.list 3 a)) (xs : List Atom) (hI : ∀ x ∈ xs, ∀ z ∈ x.2, inI z) (hs : terms xs + xs.length ≤ 1048576) (hal : a.length ≤ 1048576) : ∃ b, (b = true → xs.length ≤ 30 ∧ ∀ x ∈ xs, 0 ≤ x.1 ∧ x.1 < (a.length : Int)) ∧ ∀ k, 2000000 ≤ k → C (k + 8) 34 [.agg [.d (.list 3 a), .d (.list 2 (A1 xs))]] = bo b ∧ C (k + 8) 28 [.agg [.d (.list 3 a), .d (.list 2 (A1 xs))]] = bo b := by
  have hmax : (1048576 : Nat) ≤ maxLen := by decide
  have hl : ∀ x ∈ xs, x.2.length ≤ 1048576 := fun x hx => by have := len_terms hx; omega
  obtain ⟨vf, hvf⟩ : ∃ vf : Atom → Bool, ∀ x ∈ xs, FactB a x (vf x) := by
    have : ∀ x : Atom, ∃ b, x ∈ xs → FactB a x b := by
      intro x
      by_cases h : x ∈ xs
      · obtain ⟨b, hb⟩ := factB ha x (hI x h) (by have := hl x h; omega)
        exact ⟨b, fun _ => hb⟩
      · exact ⟨false, fun h' => absurd h' h⟩
    obtain ⟨vf, hv⟩ := Classical.axiomOfChoice this
    exact ⟨vf, fun x hx => hv x hx⟩
  obtain ⟨rb, hrb⟩ := rels ha
  let bad : Nat → Atom → Bool := fun i x => !vf x || ((decide (i > 0) && decide (cmpF (xs.getD (i - 1) x) x ≥ 0)) || (src a x && decide ((nulls x.2).length > 0)))
  have key : ∃ st : Bool, (st = false → ∀ x ∈ xs, vf x = true) ∧ ∀ k, 2000000 ≤ k → F34.L4 (k + 7) (C (k + 7)) (k + 7) (A1 xs) (xs.length : Int) 0 a (A1 xs) = bo (!st) ∧ F28.L2 (k + 7) (C (k + 7)) (k + 7) 0 a (A1 xs) = cond st (bo false) (bo (rb && decide ((xs.length : Int) ≤ 30))) := by
    have s78 : ∀ k, 2000000 ≤ k → ∀ (n i : Nat) x, xs[i]? = some x → F34.L4 (k + 7) (C (k + 7)) (n + 1) (A1 xs) (xs.length : Int) (i : Int) a (A1 xs) = cond (bad i x) (bo false) (F34.L4 (k + 7) (C (k + 7)) n (A1 xs) (xs.length : Int) ((i + 1 : Nat) : Int) a (A1 xs)) ∧
        F28.L2 (k + 7) (C (k + 7)) (n + 1) (i : Int) a (A1 xs) = cond (bad i x) (bo false) (F28.L2 (k + 7) (C (k + 7)) n ((i + 1 : Nat) : Int) a (A1 xs)) := by
      intro k hk n i x hx
      have hi := (List.getElem?_eq_some_iff.1 hx).1
      have hxm := List.mem_of_getElem? hx
      have hxl := hl x hxm
      obtain ⟨hv1, hv2⟩ := hvf x hxm
      obtain ⟨e1, e2⟩ := hv2 (k + 1) (by omega) (by omega)
      have hc0 : cellI .i64 (A1 xs) (i : Int).toNat 0 = some x.1 := by rw [Int.toNat_natCast, cellI_at (A1_get hx)]; simp [asI_s]
      have hc1 : cellL 1 (A1 xs) (i : Int).toNat 1 = some (I1 x.2) := by rw [Int.toNat_natCast, cellL_at (A1_get hx)]; simp [asL_s]
      rw [F34.L4.succ, F28.L2.succ, A1_len, ite'_t (lt_t hi), ite'_t (inR_t hi), ite'_t (lt_t hi), ite'_t (inR_t hi), hc0, hc1]
      simp only [bindI_s, bindL_s]
      rw [e1, e2, bB, bB, next_i hi (m := xs.length) (by omega)]
      cases hvx : vf x with
      | false =>
        have hb : bad i x = true := by simp [bad, hvx]
        rw [hb]
        exact ⟨rfl, rfl⟩
      | true =>
        obtain ⟨g1, g2⟩ := src_cell ha (hv1 hvx)
        have tail : ∀ (X Y : Option Res) (nu : Bool), nu = decide ((nulls x.2).length > 0) → True := fun _ _ _ _ => trivial
        have n126 := c52 (k := k + 3) x.1 x.2 (hI x hxm) (by omega) hxl
        have n75 := c29 (k := k + 4) x.1 x.2 (hI x hxm) (by omega) hxl
        rw [ite'_nt, ite'_nt, g1, g2, n126, n75]
        simp only [bindB_s, bindR_s, resO_s, resL_d, bindL_s, I1_len]
        have hnu : decide (((nulls x.2).length : Int) > 0) = decide ((nulls x.2).length > 0) := by
          rw [Bool.eq_iff_iff]; simp only [decide_eq_true_eq]; omega
        rw [hnu]
        by_cases h0 : i = 0
        · subst h0
          have hb : bad 0 x = (src a x && decide ((nulls x.2).length > 0)) := by simp [bad, hvx]
          rw [hb]
          cases src a x <;> cases decide ((nulls x.2).length > 0) <;> exact ⟨rfl, rfl⟩
        · have hw : IntKind.i64.wrap ((i : Int) - 1) = ((i - 1 : Nat) : Int) := by rw [wrap_id (by omega) (by omega)]; omega
          have hy : xs[i - 1]? = some xs[i - 1] := List.getElem?_eq_getElem (by omega)
          have hyl := hl _ (List.mem_of_getElem? hy)
          have hd0 : cellI .i64 (A1 xs) ((i - 1 : Nat) : Int).toNat 0 = some (xs[i - 1]).1 := by rw [Int.toNat_natCast, cellI_at (A1_get hy)]; simp [asI_s]
          have hd1 : cellL 1 (A1 xs) ((i - 1 : Nat) : Int).toNat 1 = some (I1 (xs[i - 1]).2) := by rw [Int.toNat_natCast, cellL_at (A1_get hy)]; simp [asL_s]
          have hgt : decide ((i : Int) > 0) = true := by simp; omega
          rw [hgt, hw, hd0, hd1]
          simp only [bindI_s, bindL_s]
          rw [c72 (k := k + 2) xs[i - 1] x (by omega) (by omega), c64 (k := k + 5) xs[i - 1] x (by omega) (by omega), iB', iB', inR_t (i := i - 1) (by omega)]
          have hb : bad i x = (decide (cmpF xs[i - 1] x ≥ 0) || (src a x && decide ((nulls x.2).length > 0))) := by
            simp [bad, hvx, List.getD_eq_getElem?_getD, hy, show i > 0 by omega]
          rw [hb]
          cases decide (cmpF xs[i - 1] x ≥ 0) <;> cases src a x <;> cases decide ((nulls x.2).length > 0) <;> exact ⟨rfl, rfl⟩
    have d78 : ∀ k n, F34.L4 (k + 7) (C (k + 7)) (n + 1) (A1 xs) (xs.length : Int) (xs.length : Int) a (A1 xs) = bo true := fun k n => by rw [F34.L4.succ, ite'_f (lt_f (by omega))]; rfl
    have d74 : ∀ k, 2000000 ≤ k → ∀ n, F28.L2 (k + 7) (C (k + 7)) (n + 1) (xs.length : Int) a (A1 xs) = bo (rb && decide ((xs.length : Int) ≤ 30)) := fun k hk n => by
      rw [F28.L2.succ, A1_len, ite'_f (lt_f (by omega)), (hrb (k + 4) (by omega)).2, bB]
      cases rb <;> rfl
    by_cases hall : ∀ (i : Nat) x, xs[i]? = some x → bad i x = false
    · refine ⟨false, fun _ x hx => ?_, fun k hk => ?_⟩
      · obtain ⟨i, hi⟩ := List.mem_iff_getElem?.1 hx
        have := hall i x hi
        simp only [bad, Bool.or_eq_false_iff, Bool.not_eq_false'] at this
        exact this.1
      · constructor
        · rcases loop_find (L := fun n i => F34.L4 (k + 7) (C (k + 7)) n (A1 xs) (xs.length : Int) i a (A1 xs)) (stop := bad) (hit := fun _ => bo false) (fin := bo true) (fun n i x hx => (s78 k hk n i x hx).1) (d78 k) (k + 7) (by omega) with ⟨i, x, hx, hst, _⟩ | ⟨_, h⟩
          · rw [hall i x hx] at hst; cases hst
          · exact h
        · rcases loop_find (L := fun n i => F28.L2 (k + 7) (C (k + 7)) n i a (A1 xs)) (stop := bad) (hit := fun _ => bo false) (fun n i x hx => (s78 k hk n i x hx).2) (d74 k hk) (k + 7) (by omega) with ⟨i, x, hx, hst, _⟩ | ⟨_, h⟩
          · rw [hall i x hx] at hst; cases hst
          · exact h
    · refine ⟨true, ⟨fun h => (by cases h), fun k hk => ?_⟩⟩
      constructor
      · rcases loop_find (L := fun n i => F34.L4 (k + 7) (C (k + 7)) n (A1 xs) (xs.length : Int) i a (A1 xs)) (stop := bad) (hit := fun _ => bo false) (fin := bo true) (fun n i x hx => (s78 k hk n i x hx).1) (d78 k) (k + 7) (by omega) with ⟨i, x, hx, hst, h⟩ | ⟨h, _⟩
        · exact h
        · exact absurd h hall
      · rcases loop_find (L := fun n i => F28.L2 (k + 7) (C (k + 7)) n i a (A1 xs)) (stop := bad) (hit := fun _ => bo false) (fun n i x hx => (s78 k hk n i x hx).2) (d74 k hk) (k + 7) (by omega) with ⟨i, x, hx, hst, h⟩ | ⟨h, _⟩
        · exact h
        · exact absurd h hall
  obtain ⟨st, hst, hk2⟩ := key
  refine ⟨rb && (decide ((xs.length : Int) ≤ 30) && !st), fun h => ?_, fun k hk => ?_⟩
  · simp only [Bool.and_eq_true, decide_eq_true_eq, Bool.not_eq_true'] at h
    exact ⟨by omega, fun x hx => (hvf x hx).1 (hst h.2.2 x hx)⟩
  · obtain ⟨e1, e2⟩ := hk2 k hk
    constructor
    · rw [F34.run, (hrb (k + 4) (by omega)).1, bB, A1_len, e1]
      cases rb with
      | false => rfl
      | true =>
        rw [ite'_nt]
        by_cases h30 : (xs.length : Int) ≤ 30
        · rw [ite'_f (by simp; omega), decide_eq_true h30]; rfl
        · rw [ite'_t (by simp; omega), decide_eq_false h30]; rfl
    · rw [F28.run, e2]
      cases st <;> cases rb <;> cases decide ((xs.length : Int) ≤ 30) <;> rfl
/-! ### the nulls of an instance -/
def vals (xs : List Atom) : List Int := xs.flatMap fun x => x.2
theorem vals_len (xs : List Atom) : (vals xs).length = terms xs := by simp [vals, terms, List.length_flatMap]
theorem vals_I {xs : List Atom} (hI : ∀ x ∈ xs, ∀ z ∈ x.2, inI z) : ∀ z ∈ vals xs, inI z := by
  intro z hz
  obtain ⟨x, hx, h⟩ := List.mem_flatMap.1 hz
  exact hI x hx z h
/-- spec.NullsOfInstance -/
theorem c51 (a : Ovi.Rows) (xs : List Atom) (hI : ∀ x ∈ xs, ∀ z ∈ x.2, inI z) (hk : 2000000 ≤ k) (hs : terms xs + xs.length ≤ 1048576) : C (k + 4) 51 [.agg [.d (.list 3 a), .d (.list 2 (A1 xs))]] = some [(false, [.d (.list 1 (I1 (nulls (vals xs))))])] := by
  have hmax : (1048576 : Nat) ≤ maxLen := by decide
  rw [F51.run]
  have inner : ∀ (ls : List Int) (i : Nat), ls.length ≤ 1048576 → i < xs.length → ∀ (m j n k3 : Nat) (acc : List Int), j + m = ls.length → m < n → SS acc → acc.length + m ≤ 1048576 → 
      ∃ acc', F51.L7 (k + 3) (C (k + 3)) k3 n (I1 acc) (i : Int) (I1 ls) (j : Int) a (A1 xs) = F51.L3 (k + 3) (C (k + 3)) k3 (I1 acc') ((i + 1 : Nat) : Int) a (A1 xs) ∧ SS acc' ∧ acc'.length ≤ acc.length + m ∧ ∀ z, z ∈ acc' ↔ z ∈ acc ∨ z ∈ ls.drop j := by
    intro ls i hls hi m
    induction m with
    | zero =>
      intro j n k3 acc hm hn hS hl
      obtain ⟨n, rfl⟩ : ∃ j, n = j + 1 := ⟨n - 1, by omega⟩
      refine ⟨acc, ?_, hS, by omega, fun z => by rw [List.drop_eq_nil_of_le (by omega)]; simp⟩
      rw [F51.L7.succ, I1_len, ite'_f (lt_f (by omega)), next_i hi (m := xs.length) (by omega)]
    | succ m ih =>
      intro j n k3 acc hm hn hS hl
      obtain ⟨n, rfl⟩ : ∃ j, n = j + 1 := ⟨n - 1, by omega⟩
      have hj : j < ls.length := by omega
      have hz := List.getElem?_eq_getElem hj
      obtain ⟨r', ws, e1, e2, e3, e4, e5⟩ := c67s (k := k + 2) acc ls[j] hS (by omega) (by omega)
      rw [F51.L7.succ, I1_len, ite'_t (lt_t hj), ite'_t (inR_t hj)]
      simp only [Int.toNat_natCast, cellI_at (I1_get' hz), List.getElem?_cons_zero, Option.bind_some, asI_s, bindI_s]
      rw [e1]
      simp only [bindR_s]
      rw [e2, bindL_s, next_i hj (m := ls.length) (by omega)]
      obtain ⟨acc', g1, g2, g3, g4⟩ := ih (j + 1) n k3 ws (by omega) (by omega) e5 (by omega)
      refine ⟨acc', g1, g2, by omega, fun z => ?_⟩
      rw [g4 z, e3 z, List.drop_eq_getElem_cons hj, List.mem_cons, or_assoc]
  have outer : ∀ (m i n : Nat) (acc : List Int), i + m = xs.length → m < n → SS acc → acc.length ≤ terms (xs.take i) → (∀ z, z ∈ acc ↔ z ∈ nulls (vals (xs.take i))) →
      F51.L3 (k + 3) (C (k + 3)) n (I1 acc) (i : Int) a (A1 xs) = some [(false, [.d (.list 1 (I1 (nulls (vals xs))))])] := by
    intro m
    induction m with
    | zero =>
      intro i n acc hm hn hS ha hmem
      obtain ⟨n, rfl⟩ : ∃ j, n = j + 1 := ⟨n - 1, by omega⟩
      obtain rfl : i = xs.length := by omega
      rw [List.take_length] at hmem
      rw [F51.L3.succ, A1_len, ite'_f (lt_f (by omega)), ss_eq hS (nulls_ss _) hmem]
    | succ m ih =>
      intro i n acc hm hn hS ha hmem
      obtain ⟨n, rfl⟩ : ∃ j, n = j + 1 := ⟨n - 1, by omega⟩
      have hi : i < xs.length := by omega
      have hx := List.getElem?_eq_getElem hi
      have hxm := List.mem_of_getElem? hx
      have hta := terms_at hx
      have htl := terms_le xs (i + 1)
      have hnl := nulls_len (xs[i]).2
      rw [F51.L3.succ, A1_len, ite'_t (lt_t hi), ite'_t (inR_t hi)]
      simp only [Int.toNat_natCast, cellI_at (A1_get hx), cellL_at (A1_get hx), List.getElem?_cons_zero, List.getElem?_cons_succ, Option.bind_some, asI_s, asL_s, bindI_s, bindL_s]
      rw [c29 (k := k) (xs[i]).1 (xs[i]).2 (hI _ hxm) (by omega) (by omega)]
      simp only [bindR_s, resL_d, bindL_s]
      obtain ⟨acc', g1, g2, g3, g4⟩ := inner (nulls (xs[i]).2) i (by omega) hi (nulls (xs[i]).2).length 0 (k + 3) n acc (by omega) (by omega) hS (by omega)
      rw [show ((0 : Nat) : Int) = 0 from rfl] at g1
      rw [g1]
      refine ih (i + 1) n acc' (by omega) (by omega) g2 (by omega) (fun z => ?_)
      rw [g4 z, List.drop_zero, hmem z, mem_nulls, mem_nulls, mem_nulls, List.take_succ_eq_append_getElem hi]
      unfold vals
      rw [List.flatMap_append]
      simp only [List.mem_append, List.flatMap_cons, List.flatMap_nil, List.append_nil]
      constructor
      · rintro (⟨v, h1, h2⟩ | ⟨v, h1, h2⟩)
        · exact ⟨v, .inl h1, h2⟩
        · exact ⟨v, .inr h1, h2⟩
      · rintro ⟨v, h1 | h1, h2⟩
        · exact .inl ⟨v, h1, h2⟩
        · exact .inr ⟨v, h1, h2⟩
  exact outer xs.length 0 (k + 3) [] (by omega) (by omega) (by simp [SS]) (by simp) (fun z => by simp [mem_nulls, vals])
end Go.Proofs.Ythicohakeljdcaa.Q

/-! PJa -/
namespace Go.Proofs.Ythicohakeljdcaa.Q
open Go Ovi
theorem C_prim {k : Nat} {f : FuncId} {p : Args → Option Res} {args : Args} (h : prim f = some p) : C (k + 1) f args = p args := by
  show evCall P hs prim (k + 1) f args = p args
  unfold evCall
  rw [h]
variable {k : Nat}
/-- impl.NullsOfInstance -/
theorem c80 (a : Ovi.Rows) (xs : List Atom) (hI : ∀ x ∈ xs, ∀ z ∈ x.2, inI z) (hk : 2000000 ≤ k) (hs : terms xs + xs.length ≤ 1048576) : C (k + 4) 80 [.agg [.d (.list 3 a), .d (.list 2 (A1 xs))]] = some [(false, [.row 3 1 (I1 (nulls (vals xs)))])] := by
  have hmax : (1048576 : Nat) ≤ maxLen := by decide
  rw [F80.run, A1_len]
  have key : ∀ (m i n : Nat), i + m = xs.length → m < n → F80.L3 (k + 3) (C (k + 3)) n (A1 xs) (xs.length : Int) (i : Int) (I1 (vals (xs.take i))) = some [(false, [.row 3 1 (I1 (nulls (vals xs)))])] := by
    intro m
    induction m with
    | zero =>
      intro i n hm hn
      obtain ⟨n, rfl⟩ : ∃ j, n = j + 1 := ⟨n - 1, by omega⟩
      obtain rfl : i = xs.length := by omega
      rw [F80.L3.succ, ite'_f (lt_f (by omega)), List.take_length, c82 (vals xs) (vals_I hI) (by rw [vals_len]; omega) (by rw [vals_len]; omega)]
      simp only [bindR_s, resO_s, bindL_s]
    | succ m ih =>
      intro i n hm hn
      obtain ⟨n, rfl⟩ : ∃ j, n = j + 1 := ⟨n - 1, by omega⟩
      have hi : i < xs.length := by omega
      have hx := List.getElem?_eq_getElem hi
      have hta := terms_at hx
      have htl := terms_le xs (i + 1)
      have hvl := vals_len (xs.take i)
      rw [F80.L3.succ, A1_len, ite'_t (lt_t hi), ite'_t (inR_t hi)]
      simp only [Int.toNat_natCast, cellI_at (A1_get hx), cellL_at (A1_get hx), List.getElem?_cons_zero, List.getElem?_cons_succ, Option.bind_some, asI_s, asL_s, bindI_s, bindL_s]
      rw [I1_len, I1_len, ite'_t (fits_t (by omega)), wrap_succ (m := xs.length) (by omega) (by omega) (by omega), show ((i : Int) + 1) = ((i + 1 : Nat) : Int) by omega]
      have e : I1 (vals (xs.take i)) ++ I1 (xs[i]).2 = I1 (vals (xs.take (i + 1))) := by
        rw [show vals (xs.take (i + 1)) = vals (xs.take i) ++ (xs[i]).2 by rw [List.take_succ_eq_append_getElem hi]; simp only [vals, List.flatMap_append, List.flatMap_cons, List.flatMap_nil, List.append_nil]]
        simp only [I1, List.map_append]
      rw [e]
      exact ih (i + 1) n (by omega) (by omega)
  exact key xs.length 0 (k + 3) (by omega) (by omega)
/-- IsGround: both -/
theorem groundB {a : Ovi.Rows} (ha : Fit Rl (.list 3 a)) (xs : List Atom) (hI : ∀ x ∈ xs, ∀ z ∈ x.2, inI z) (hs : terms xs + xs.length ≤ 1048576) (hal : a.length ≤ 1048576) :
    ∃ g, ∀ k, 2000000 ≤ k → C (k + 9) 47 [.agg [.d (.list 3 a), .d (.list 2 (A1 xs))]] = bo g ∧ C (k + 9) 45 [.agg [.d (.list 3 a), .d (.list 2 (A1 xs))]] = bo g := by
  obtain ⟨b, _, hb⟩ := instB ha xs hI hs hal
  refine ⟨b && (((I1 (nulls (vals xs))).length : Int) == 0), fun k hk => ⟨?_, ?_⟩⟩
  · rw [F47.run, (hb k hk).1, bB, iB]
    cases b with
    | false => rfl
    | true =>
      rw [cond_true, c80 (k := k + 4) a xs hI (by omega) hs]
      simp only [bindR_s, resO_s, bindL_s, Bool.true_and]
      rfl
  · rw [F45.run, (hb k hk).2, bB, iB]
    cases b with
    | false => rfl
    | true =>
      rw [cond_true, c51 (k := k + 4) a xs hI (by omega) hs]
      simp only [bindR_s, resL_d, bindL_s, Bool.true_and]
      rfl
theorem A1_snoc (xs : List Atom) {i : Nat} (hi : i < xs.length) : A1 (xs.take i) ++ [[.int .i64 (xs[i]).1, .list 1 (I1 (xs[i]).2)]] = A1 (xs.take (i + 1)) := by
  rw [List.take_succ_eq_append_getElem hi]
  simp only [A1, List.map_append, List.map_cons, List.map_nil]
/-- spec.l5Copy -/
theorem c46 (a : Ovi.Rows) (xs : List Atom) (hk : 2000000 ≤ k) (hs : terms xs + xs.length ≤ 1048576) (hal : a.length ≤ 1048576) : C (k + 2) 46 [.agg [.d (.list 3 a), .d (.list 2 (A1 xs))]] = some [(true, [.row 86 3 a, .frow 58 2 1 (A1 xs)])] := by
  have hmax : (1048576 : Nat) ≤ maxLen := by decide
  rw [F46.run, ite'_t (fits_t (by omega))]
  have key : ∀ (m i n : Nat), i + m = xs.length → m < n → F46.L3 (k + 1) (C (k + 1)) n (i : Int) a (A1 xs) [] [] a (A1 (xs.take i)) = some [(true, [.row 86 3 a, .frow 58 2 1 (A1 xs)])] := by
    intro m
    induction m with
    | zero =>
      intro i n hm hn
      obtain ⟨n, rfl⟩ : ∃ j, n = j + 1 := ⟨n - 1, by omega⟩
      obtain rfl : i = xs.length := by omega
      rw [F46.L3.succ, A1_len, ite'_f (lt_f (by omega)), List.take_length]
    | succ m ih =>
      intro i n hm hn
      obtain ⟨n, rfl⟩ : ∃ j, n = j + 1 := ⟨n - 1, by omega⟩
      have hi : i < xs.length := by omega
      have hx := List.getElem?_eq_getElem hi
      have hta := terms_at hx
      have htl := terms_le xs (i + 1)
      rw [F46.L3.succ, A1_len, ite'_t (lt_t hi), ite'_t (inR_t hi)]
      simp only [Int.toNat_natCast, cellI_at (A1_get hx), cellL_at (A1_get hx), List.getElem?_cons_zero, List.getElem?_cons_succ, Option.bind_some, asI_s, asL_s, bindI_s, bindL_s]
      rw [F31.run, I1_len, ite'_t (fits_t (by omega))]
      simp only [bindR_s]
      rw [show resI .i64 1 true 2 [(true, [RL.d (D.int .i64 (xs[i]).1), RL.row 3 1 (I1 (xs[i]).2)])] 0 0 = some (xs[i]).1 from rfl, show resO 3 1 1 true 2 [(true, [RL.d (D.int .i64 (xs[i]).1), RL.row 3 1 (I1 (xs[i]).2)])] 0 1 = some (I1 (xs[i]).2) from rfl, bindI_s, bindL_s]
      rw [A1_len, ite'_t (fits_t (by simp; omega)), wrap_succ (m := xs.length) (by omega) (by omega) (by omega), show ((i : Int) + 1) = ((i + 1 : Nat) : Int) by omega, A1_snoc xs hi]
      exact ih (i + 1) n (by omega) (by omega)
  exact key xs.length 0 (k + 1) (by omega) (by omega)
/-- impl.factsCopy -/
theorem c74 (xs : List Atom) (hk : 2000000 ≤ k) (hs : terms xs + xs.length ≤ 1048576) : C (k + 3) 74 [.d (.list 2 (A1 xs))] = some [(false, [.frow 58 2 1 (A1 xs)])] := by
  have hmax : (1048576 : Nat) ≤ maxLen := by decide
  rw [F74.run, A1_len]
  have key : ∀ (m i n : Nat), i + m = xs.length → m < n → F74.L3 (k + 2) (C (k + 2)) n (A1 xs) (xs.length : Int) (i : Int) (A1 (xs.take i)) = some [(false, [.frow 58 2 1 (A1 xs)])] := by
    intro m
    induction m with
    | zero =>
      intro i n hm hn
      obtain ⟨n, rfl⟩ : ∃ j, n = j + 1 := ⟨n - 1, by omega⟩
      obtain rfl : i = xs.length := by omega
      rw [F74.L3.succ, ite'_f (lt_f (by omega)), List.take_length]
    | succ m ih =>
      intro i n hm hn
      obtain ⟨n, rfl⟩ : ∃ j, n = j + 1 := ⟨n - 1, by omega⟩
      have hi : i < xs.length := by omega
      have hx := List.getElem?_eq_getElem hi
      have hta := terms_at hx
      have htl := terms_le xs (i + 1)
      rw [F74.L3.succ, A1_len, ite'_t (lt_t hi), ite'_t (inR_t hi)]
      simp only [Int.toNat_natCast, cellI_at (A1_get hx), cellL_at (A1_get hx), List.getElem?_cons_zero, List.getElem?_cons_succ, Option.bind_some, asI_s, asL_s, bindI_s, bindL_s]
      have h121 : C (k + 1) 121 [.d (.list 1 (I1 (xs[i]).2))] = some [(false, [.row 3 1 (I1 (xs[i]).2)])] := by
        rw [C_prim (p := cloneP 3) rfl]
        unfold cloneP
        simp only [ints_I1]
        rw [show Nat.ble (xs[i]).2.length 1099511627776 = true from Nat.ble_eq_true_of_le (by omega)]
        rfl
      rw [F99.run, h121]
      simp only [bindR_s, resO_s, bindL_s]
      rw [show resI .i64 1 true 2 [(true, [RL.d (D.int .i64 (xs[i]).1), RL.row 3 1 (I1 (xs[i]).2)])] 0 0 = some (xs[i]).1 from rfl, show resO 3 1 1 true 2 [(true, [RL.d (D.int .i64 (xs[i]).1), RL.row 3 1 (I1 (xs[i]).2)])] 0 1 = some (I1 (xs[i]).2) from rfl, bindI_s, bindL_s]
      rw [A1_len, ite'_t (fits_t (by simp; omega)), wrap_succ (m := xs.length) (by omega) (by omega) (by omega), show ((i : Int) + 1) = ((i + 1 : Nat) : Int) by omega, A1_snoc xs hi]
      exact ih (i + 1) n (by omega) (by omega)
  exact key xs.length 0 (k + 2) (by omega) (by omega)
/-- impl.instanceCopy -/
theorem c35 (a : Ovi.Rows) (xs : List Atom) (hk : 2000000 ≤ k) (hs : terms xs + xs.length ≤ 1048576) (hal : a.length ≤ 1048576) : C (k + 4) 35 [.agg [.d (.list 3 a), .d (.list 2 (A1 xs))]] = some [(true, [.row 86 3 a, .frow 58 2 1 (A1 xs)])] := by
  have h73 : C (k + 3) 73 [.d (.list 3 a)] = some [(false, [.row 86 3 a])] := by
    rw [C_prim (p := cloneZP 86 3) rfl]
    unfold cloneZP
    simp only []
    rw [show Nat.ble (List.length a) 1099511627776 = true from Nat.ble_eq_true_of_le (by omega)]
    rfl
  rw [F35.run, h73, c74 xs hk hs]
  simp only [bindR_s, resO_s, resF_s, bindL_s]
end Go.Proofs.Ythicohakeljdcaa.Q

/-! Mke -/
namespace Ovi
open Go Go.RowKit

/-! ### What was marked, row by row -/
theorem mkN_chain {step : Step1} {xs : Rows} {k : Int} : ∀ {m : Nat} {ys : Rows} {k' : Int}, m ≤ xs.length → mkN step m xs k = some (ys, k') →
    ∃ κ : Nat → Int, κ 0 = k ∧ κ m = k' ∧ (∀ i, i < m → ∃ r r', xs[i]? = some r ∧ ys[i]? = some r' ∧ step r (κ i) = some (r', κ (i + 1))) ∧ (∀ i, m ≤ i → ys[i]? = xs[i]?) ∧ ys.length = xs.length
  | 0, ys, k', _, h => by cases h; exact ⟨fun _ => k, rfl, rfl, fun i hi => by omega, fun i _ => rfl, rfl⟩
  | m + 1, ys, k', hm, h => by
    obtain ⟨zs, k1, r, r', h1, h2, h3, rfl⟩ := mkN_succ h
    obtain ⟨κ, q0, q1, q2, q3, q4⟩ := mkN_chain (m := m) (by omega) h1
    refine ⟨fun i => if i ≤ m then κ i else k', by simp [q0], if_neg (by omega), fun i hi => ?_, fun i hi => ?_, by simp [q4]⟩
    · by_cases him : i = m
      · subst him
        refine ⟨r, r', by rw [← q3 i (Nat.le_refl _)]; exact h2, List.getElem?_set_self (by omega), ?_⟩
        show step r (if i ≤ i then κ i else k') = some (r', if i + 1 ≤ i then κ (i + 1) else k')
        rw [if_pos (Nat.le_refl _), if_neg (by omega), q1]
        exact h3
      · obtain ⟨s, s', p1, p2, p3⟩ := q2 i (by omega)
        refine ⟨s, s', p1, by rw [List.getElem?_set_ne (by omega)]; exact p2, ?_⟩
        show step s (if i ≤ m then κ i else k') = some (s', if i + 1 ≤ m then κ (i + 1) else k')
        rw [if_pos (by omega), if_pos (by omega)]
        exact p3
    · rw [List.getElem?_set_ne (by omega)]
      exact q3 i (by omega)
theorem mkRows_chain {step : Step1} {xs ys : Rows} {k k' : Int} (h : mkRows step xs k = some (ys, k')) :
    ∃ κ : Nat → Int, κ 0 = k ∧ κ ys.length = k' ∧ ys.length = xs.length ∧ ∀ i, i < ys.length → ∃ r r', xs[i]? = some r ∧ ys[i]? = some r' ∧ step r (κ i) = some (r', κ (i + 1)) := by
  obtain ⟨κ, q0, q1, q2, _, q4⟩ := mkN_chain (Nat.le_refl _) h
  exact ⟨κ, q0, by rw [q4]; exact q1, q4, fun i hi => q2 i (by omega)⟩
theorem chain_le {step : Step1} (hs : Up step) {xs ys : Rows} {κ : Nat → Int} (h : ∀ i, i < ys.length → ∃ r r', xs[i]? = some r ∧ ys[i]? = some r' ∧ step r (κ i) = some (r', κ (i + 1))) : ∀ {i j : Nat}, i ≤ j → j ≤ ys.length → κ i ≤ κ j := by
  intro i j hij
  induction j with
  | zero => intro _; obtain rfl : i = 0 := by omega
            exact Int.le_refl _
  | succ j ih =>
    intro hj
    by_cases he : i = j + 1
    · subst he; exact Int.le_refl _
    · obtain ⟨r, r', _, _, p3⟩ := h j (by omega)
      exact Int.le_trans (ih (by omega) (by omega)) (hs _ _ _ _ p3).1
/-- marks exist where each row's do -/
theorem mkN_total {step : Step1} {c : List D → Nat} {xs : Rows} (h : ∀ r ∈ xs, ∀ k, ∃ r', step r k = some (r', k + c r)) (k : Int) : ∀ m, m ≤ xs.length → ∃ ys, mkN step m xs k = some (ys, k + ((xs.take m).map c).sum)
  | 0, _ => ⟨xs, by simp [mkN]⟩
  | m + 1, hm => by
    obtain ⟨ys, h1⟩ := mkN_total h k m (by omega)
    obtain ⟨κ, _, _, _, q3, _⟩ := mkN_chain (by omega) h1
    have hx : xs[m]? = some xs[m] := List.getElem?_eq_getElem (by omega)
    obtain ⟨r', h2⟩ := h xs[m] (List.getElem_mem (by omega)) (k + ((xs.take m).map c).sum)
    refine ⟨ys.set m r', ?_⟩
    unfold mkN
    rw [h1]
    simp only [Option.bind_some]
    rw [q3 m (Nat.le_refl _), hx]
    simp only [Option.bind_some, h2, Option.map_some, Option.some.injEq, Prod.mk.injEq, true_and]
    rw [List.take_succ_eq_append_getElem (by omega), List.map_append, List.sum_append]
    simp only [List.map_cons, List.map_nil, List.sum_cons, List.sum_nil, Nat.add_zero, Int.natCast_add, Int.add_assoc]
theorem mkRows_total {step : Step1} {c : List D → Nat} {xs : Rows} (h : ∀ r ∈ xs, ∀ k, ∃ r', step r k = some (r', k + c r)) (k : Int) : ∃ ys, mkRows step xs k = some (ys, k + (xs.map c).sum) := by
  obtain ⟨ys, h1⟩ := mkN_total h k xs.length (Nat.le_refl _)
  rw [List.take_length] at h1
  exact ⟨ys, h1⟩
end Ovi

/-! PKa -/
namespace Go.Proofs.Ythicohakeljdcaa.Q
open Go Ovi
variable {k : Nat}
theorem cell_at {l : Ovi.Rows} {i : Nat} {r : List D} {c : Nat} {x : D} (hr : l[i]? = some r) (hc : r[c]? = some x) : cellD l i c = some x := by simp [cellD, hr, hc]
theorem bne_self (n : Int) : (n != n) = false := by simp
/-- heldIntS after the mark -/
theorem c60 {xs ys : Ovi.Rows} {m m' : Int} (h : mkRows stepInt xs m = some (ys, m')) (h0 : 0 ≤ m) (h1 : m' ≤ 4611686018427387904) (hl : ys.length ≤ 1048576) (hk : 2000000 ≤ k) : C (k + 1) 60 [.d (.list 1 ys), .d (.int .i64 m)] = some [(false, [.d (.int .i64 m')])] := by
  have hmax : (1048576 : Nat) ≤ maxLen := by decide
  obtain ⟨κ, q0, q1, q2, q3⟩ := mkRows_chain h
  rw [F60.run]
  have key : ∀ (a i n : Nat), i + a = ys.length → a < n → F60.L2 k (C k) n ys (κ i) (i : Int) = some [(false, [.d (.int .i64 m')])] := by
    intro a
    induction a with
    | zero =>
      intro i n hm hn
      obtain ⟨n, rfl⟩ : ∃ j, n = j + 1 := ⟨n - 1, by omega⟩
      obtain rfl : i = ys.length := by omega
      rw [F60.L2.succ, ite'_f (lt_f (by omega)), q1]
    | succ a ih =>
      intro i n hm hn
      obtain ⟨n, rfl⟩ : ∃ j, n = j + 1 := ⟨n - 1, by omega⟩
      have hi : i < ys.length := by omega
      obtain ⟨r, r', p1, p2, p3⟩ := q3 i hi
      obtain ⟨z, _, rfl, e⟩ := stepInt_some p3
      have b1 := chain_le stepInt_up q3 (Nat.zero_le i) (by omega)
      have b2 := chain_le stepInt_up q3 (show i + 1 ≤ ys.length by omega) (Nat.le_refl _)
      rw [F60.L2.succ, ite'_t (lt_t hi), ite'_t (inR_t hi)]
      simp only [Int.toNat_natCast, cellI_at p2, List.getElem?_cons_zero, Option.bind_some, asI_s, bindI_s]
      rw [ite'_f (bne_self _), wrap_id (by omega) (by omega), wrap_succ (m := ys.length) (by omega) (by omega) (by omega), show ((i : Int) + 1) = ((i + 1 : Nat) : Int) by omega, ← e]
      exact ih (i + 1) n (by omega) (by omega)
  have := key ys.length 0 k (by omega) (by omega)
  rwa [q0] at this
end Go.Proofs.Ythicohakeljdcaa.Q

/-! PKb -/
namespace Go.Proofs.Ythicohakeljdcaa.Q
open Go Ovi
variable {k : Nat}
theorem digit (n : Nat) : bytesD [[D.int .u8 (IntKind.u8.wrap (IntKind.i64.wrap ((48 : Int) + ((n : Int)).tmod 10)))]] = some [UInt8.ofNat (48 + n % 10)] := by
  have h1 : ((n : Int)).tmod 10 = ((n % 10 : Nat) : Int) := by
    rw [Int.tmod_eq_emod_of_nonneg (by omega)]; omega
  have h2 : n % 10 < 10 := Nat.mod_lt _ (by decide)
  rw [h1]
  generalize n % 10 = d at h2
  match d, h2 with
  | 0, _ => rfl
  | 1, _ => rfl
  | 2, _ => rfl
  | 3, _ => rfl
  | 4, _ => rfl
  | 5, _ => rfl
  | 6, _ => rfl
  | 7, _ => rfl
  | 8, _ => rfl
  | 9, _ => rfl
theorem l79 (k : Nat) (call : CallF) : ∀ (f n K : Nat) (acc : List UInt8), f < K → n < 10 ^ f → n ≤ 4611686018427387904 → acc.length + f ≤ 1000 → F79.L4 k call K (n : Int) acc = some [(false, [.d (.str (109 :: digs f n acc))])] := by
  intro f
  induction f with
  | zero =>
    intro n K acc hK hn _ hl
    obtain ⟨K, rfl⟩ : ∃ j, K = j + 1 := ⟨K - 1, by omega⟩
    obtain rfl : n = 0 := by simpa using hn
    rw [F79.L4.succ, ite'_f (by decide), ite'_t (fits_t (by omega))]
    rfl
  | succ f ih =>
    intro n K acc hK hn hn2 hl
    obtain ⟨K, rfl⟩ : ∃ j, K = j + 1 := ⟨K - 1, by omega⟩
    by_cases h0 : n = 0
    · subst h0
      rw [F79.L4.succ, ite'_f (by decide), ite'_t (fits_t (by omega))]
      rfl
    · have hd : IntKind.i64.wrap (((n : Int)).tdiv 10) = ((n / 10 : Nat) : Int) := by
        rw [Int.tdiv_eq_ediv_of_nonneg (by omega), wrap_id (by omega) (by omega)]; omega
      rw [F79.L4.succ, ite'_t (by simp only [decide_eq_true_eq]; omega), digit, bindS_s, hd]
      rw [ite'_t (fits_t (by simp only [List.length_cons, List.length_nil]; omega))]
      have h10 : n / 10 < 10 ^ f := by
        rw [Nat.pow_succ] at hn
        exact Nat.div_lt_of_lt_mul (by omega)
      rw [ih (n / 10) K ([UInt8.ofNat (48 + n % 10)] ++ acc) (by omega) h10 (by omega) (by simp only [List.length_append, List.length_cons, List.length_nil]; omega)]
      simp only [digs, if_neg h0, List.singleton_append]
/-- markText -/
theorem e79 (k : Nat) (call : CallF) (m : Int) (h0 : 0 ≤ m) (h1 : m ≤ 4611686018427387904) (hk : 2000 ≤ k) : evFnK P hs call 79 k Try.f79 [.d (.int .i64 m)] = some [(false, [.d (.str (mt m))])] := by
  rw [F79.eq]
  by_cases hm : m ≤ 0
  · rw [ite'_t (by simpa using hm)]
    simp only [mt, if_pos hm]
  · rw [ite'_f (by simpa using hm)]
    obtain ⟨n, rfl⟩ : ∃ n : Nat, m = n := ⟨m.toNat, by omega⟩
    rw [l79 k call 64 n k [] (by omega) (Nat.lt_of_le_of_lt (show n ≤ 4611686018427387904 by omega) (by decide)) (by omega) (by simp)]
    simp only [mt, if_neg hm, Int.toNat_natCast]
theorem c79 (m : Int) (h0 : 0 ≤ m) (h1 : m ≤ 4611686018427387904) (hk : 2000 ≤ k) : C (k + 1) 79 [.d (.int .i64 m)] = some [(false, [.d (.str (mt m))])] := (F79.run k m).trans ((F79.eq k (C k) m).symm.trans (e79 k (C k) m h0 h1 hk))
end Go.Proofs.Ythicohakeljdcaa.Q

/-! PKc -/
namespace Go.Proofs.Ythicohakeljdcaa.Q
open Go Ovi
variable {k : Nat}
theorem stepFact_len {xs ys : Ovi.Rows} {κ : Nat → Int} (h : ∀ i, i < ys.length → ∃ r r', xs[i]? = some r ∧ ys[i]? = some r' ∧ stepFact r (κ i) = some (r', κ (i + 1))) : True := True.intro
/-- heldFactS after the mark -/
theorem c44 {xs ys : Ovi.Rows} {m m' : Int} (h : mkRows stepFact xs m = some (ys, m')) (h0 : 0 ≤ m) (h1 : m' ≤ 4611686018427387904) (hl : ys.length ≤ 1048576) (hin : ∀ r ∈ xs, ∀ z l, r = [.int .i64 z, .list 1 l] → l.length ≤ 1048576) (hk : 2000000 ≤ k) : C (k + 2) 44 [.d (.list 2 ys), .d (.int .i64 m)] = some [(false, [.d (.int .i64 m')])] := by
  have hmax : (1048576 : Nat) ≤ maxLen := by decide
  obtain ⟨κ, q0, q1, q2, q3⟩ := mkRows_chain h
  rw [F44.run]
  have key : ∀ (a i n : Nat), i + a = ys.length → a < n → F44.L2 (k + 1) (C (k + 1)) n ys (κ i) (i : Int) = some [(false, [.d (.int .i64 m')])] := by
    intro a
    induction a with
    | zero =>
      intro i n hm hn
      obtain ⟨n, rfl⟩ : ∃ j, n = j + 1 := ⟨n - 1, by omega⟩
      obtain rfl : i = ys.length := by omega
      rw [F44.L2.succ, ite'_f (lt_f (by omega)), q1]
    | succ a ih =>
      intro i n hm hn
      obtain ⟨n, rfl⟩ : ∃ j, n = j + 1 := ⟨n - 1, by omega⟩
      have hi : i < ys.length := by omega
      obtain ⟨r, r', p1, p2, p3⟩ := q3 i hi
      obtain ⟨z, l, l', rfl, hm1, rfl⟩ := stepFact_some p3
      have b1 := chain_le stepFact_up q3 (Nat.zero_le i) (by omega)
      have b2 := chain_le stepFact_up q3 (show i + 1 ≤ ys.length by omega) (Nat.le_refl _)
      have b3 := mkRows_up stepInt_up hm1
      have b4 := hin _ (List.mem_of_getElem? p1) z l rfl
      rw [F44.L2.succ, ite'_t (lt_t hi), ite'_t (inR_t hi)]
      simp only [Int.toNat_natCast, cellI_at p2, cellL_at p2, List.getElem?_cons_zero, List.getElem?_cons_succ, Option.bind_some, asI_s, asL_s, bindI_s, bindL_s]
      rw [ite'_f (bne_self _), ite'_t (inR_t hi), wrap_id (n := κ i + 1) (by omega) (by omega), c60 hm1 (by omega) (by omega) (by omega) hk]
      simp only [bindR_s, resI_s, bindI_s]
      rw [ite'_f (neg_f (by omega)), wrap_succ (m := ys.length) (by omega) (by omega) (by omega), show ((i : Int) + 1) = ((i + 1 : Nat) : Int) by omega]
      exact ih (i + 1) n (by omega) (by omega)
  have := key ys.length 0 (k + 1) (by omega) (by omega)
  rwa [q0] at this
theorem tmod3 {n : Int} (h : 0 ≤ n) : n.tmod 3 = n % 3 := Int.tmod_eq_emod_of_nonneg h
/-- heldRelationS after the mark -/
theorem c43 {xs ys : Ovi.Rows} {m m' : Int} (h : mkRows (stepRel mt) xs m = some (ys, m')) (h0 : 0 ≤ m) (h1 : m' ≤ 4611686018427387904) (hl : ys.length ≤ 1048576) (hk : 2000000 ≤ k) : C (k + 2) 43 [.d (.list 3 ys), .d (.int .i64 m)] = some [(false, [.d (.int .i64 m')])] := by
  have hmax : (1048576 : Nat) ≤ maxLen := by decide
  obtain ⟨κ, q0, q1, q2, q3⟩ := mkRows_chain h
  rw [F43.run]
  have key : ∀ (a i n : Nat), i + a = ys.length → a < n → F43.L2 (k + 1) (C (k + 1)) n ys (κ i) (i : Int) = some [(false, [.d (.int .i64 m')])] := by
    intro a
    induction a with
    | zero =>
      intro i n hm hn
      obtain ⟨n, rfl⟩ : ∃ j, n = j + 1 := ⟨n - 1, by omega⟩
      obtain rfl : i = ys.length := by omega
      rw [F43.L2.succ, ite'_f (lt_f (by omega)), q1]
    | succ a ih =>
      intro i n hm hn
      obtain ⟨n, rfl⟩ : ∃ j, n = j + 1 := ⟨n - 1, by omega⟩
      have hi : i < ys.length := by omega
      obtain ⟨r, r', p1, p2, p3⟩ := q3 i hi
      obtain ⟨s, z, t, rfl, rfl, e⟩ := stepRel_some p3
      have b1 := chain_le stepRel_up q3 (Nat.zero_le i) (by omega)
      have b2 := chain_le stepRel_up q3 (show i + 1 ≤ ys.length by omega) (Nat.le_refl _)
      rw [F43.L2.succ, ite'_t (lt_t hi), ite'_t (inR_t hi)]
      simp only [Int.toNat_natCast, cellI_at p2, cellS_at p2, cellB_at p2, List.getElem?_cons_zero, List.getElem?_cons_succ, Option.bind_some, asI_s, asS_s, asB_s, bindI_s, bindS_s, bindB_s]
      rw [c79 (κ i) (by omega) (by omega) (by omega)]
      simp only [bindR_s, resS_s, bindS_s, bne_self_eq_false, beq_self_eq_true, Bool.not_true]
      rw [ite'_f rfl, ite'_t (inR_t hi), wrap_id (n := κ i + 1) (by omega) (by omega), wrap_id (n := κ i + 1 + 1) (by omega) (by omega), wrap_id (n := κ i + 1 + 1 + 1) (by omega) (by omega), ite'_f (bne_self _), ite'_t (inR_t hi), tmod3 (by omega)]
      rw [ite'_f (by simp), wrap_succ (m := ys.length) (by omega) (by omega) (by omega), show ((i : Int) + 1) = ((i + 1 : Nat) : Int) by omega, ← e]
      exact ih (i + 1) n (by omega) (by omega)
  have := key ys.length 0 (k + 1) (by omega) (by omega)
  rwa [q0] at this
/-- heldInstance after the mark -/
theorem c15 {a b a' b' : Ovi.Rows} {m m1 m' : Int} (h1 : mkRows (stepRel mt) a m = some (a', m1)) (h2 : mkRows stepFact b m1 = some (b', m')) (h0 : 0 ≤ m) (hb : m' ≤ 4611686018427387904) (hl : a'.length ≤ 1048576) (hl2 : b'.length ≤ 1048576) (hin : ∀ r ∈ b, ∀ z l, r = [.int .i64 z, .list 1 l] → l.length ≤ 1048576) (hk : 2000000 ≤ k) : C (k + 3) 15 [.agg [.d (.list 3 a'), .d (.list 2 b')], .d (.int .i64 m)] = some [(false, [.d (.int .i64 m')])] := by
  have u1 := (mkRows_up stepRel_up h1).1
  have u2 := (mkRows_up stepFact_up h2).1
  rw [F15.run, c43 h1 h0 (by omega) hl hk]
  simp only [bindR_s, resI_s, bindI_s]
  rw [ite'_f (neg_f (by omega)), c44 h2 (by omega) hb hl2 hin hk]
  simp only [bindR_s, resI_s, bindI_s]
  rw [ite'_f (neg_f (by omega))]
/-- heldSkolemState after the mark: no terms -/
theorem c20 {a b a' b' : Ovi.Rows} {m m1 m' : Int} (h1 : mkRows (stepRel mt) a m = some (a', m1)) (h2 : mkRows stepFact b m1 = some (b', m')) (h0 : 0 ≤ m) (hb : m' ≤ 4611686018427387904) (hl : a'.length ≤ 1048576) (hl2 : b'.length ≤ 1048576) (hin : ∀ r ∈ b, ∀ z l, r = [.int .i64 z, .list 1 l] → l.length ≤ 1048576) (hk : 2000000 ≤ k) : C (k + 4) 20 [.agg [.d (.list 3 a'), .d (.list 2 b'), .d (.list 3 [])], .d (.int .i64 m)] = some [(false, [.d (.int .i64 m')])] := by
  have u1 := (mkRows_up stepRel_up h1).1
  have u2 := (mkRows_up stepFact_up h2).1
  rw [F20.run, c15 h1 h2 h0 hb hl hl2 hin hk]
  simp only [bindR_s, resI_s, bindI_s]
  rw [ite'_f (neg_f (by omega)), F50.run]
  obtain ⟨k, rfl⟩ : ∃ j, k = j + 1 := ⟨k - 1, by omega⟩
  rw [show k + 1 + 2 = (k + 2) + 1 from rfl, F50.L2.succ, ite'_f (by simp)]
  simp only [bindR_s, resI_s, bindI_s]
  rw [ite'_f (neg_f (by omega))]
end Go.Proofs.Ythicohakeljdcaa.Q

/-! PKd -/
namespace Go.Proofs.Ythicohakeljdcaa.Q
open Go Ovi
variable {k : Nat}
theorem sum_const {α : Type} (c : Nat) : ∀ l : List α, (l.map fun _ => c).sum = c * l.length
  | [] => rfl
  | x :: r => by simp only [List.map_cons, List.sum_cons, List.length_cons, sum_const c r, Nat.mul_add]; omega
theorem intMark (zs : List Int) (m : Int) : ∃ ys, mkRows stepInt (I1 zs) m = some (ys, m + zs.length) := by
  obtain ⟨ys, h⟩ := mkRows_total (step := stepInt) (c := fun _ => 1) (xs := I1 zs) (fun r hr k => by
    obtain ⟨z, _, rfl⟩ := List.mem_map.1 hr
    exact ⟨_, rfl⟩) m
  refine ⟨ys, ?_⟩
  rw [h, sum_const, I1_len, Nat.one_mul]
theorem relMark {a : Ovi.Rows} (ha : Fit Rl (.list 3 a)) (m : Int) : ∃ ys, mkRows (stepRel mt) a m = some (ys, m + 3 * a.length) := by
  obtain ⟨ys, h⟩ := mkRows_total (step := stepRel mt) (c := fun _ => 3) (xs := a) (fun r hr k => by
    unfold Rl at ha
    simp only [Fit] at ha
    obtain ⟨x0, r0, rfl, h0, hf0⟩ := Fits.cons (ha.2.2 r hr)
    obtain ⟨x1, r1, rfl, h1, hf1⟩ := Fits.cons hf0
    obtain ⟨x2, r2, rfl, h2, hf2⟩ := Fits.cons hf1
    obtain rfl := Fits.nil hf2
    obtain ⟨s, rfl, _⟩ := h0.str
    obtain ⟨z, rfl, _⟩ := h1.int
    obtain ⟨t, rfl⟩ := h2.bool
    exact ⟨[.str (mt k), .int .i64 (k + 1), .bool ((k + 1 + 1) % 3 == 0)], by simp only [stepRel, Option.some.injEq, Prod.mk.injEq, true_and]; omega⟩) m
  refine ⟨ys, ?_⟩
  rw [h, sum_const]
  simp only [Option.some.injEq, Prod.mk.injEq, true_and]
  omega
theorem factMark (xs : List Atom) (m : Int) : ∃ ys, mkRows stepFact (A1 xs) m = some (ys, m + (xs.length + terms xs : Nat)) := by
  obtain ⟨ys, h⟩ := mkRows_total (step := stepFact) (c := fun r => match r with | [_, .list _ l] => 1 + l.length | _ => 0) (xs := A1 xs) (fun r hr k => by
    obtain ⟨x, _, rfl⟩ := List.mem_map.1 hr
    obtain ⟨ys, h⟩ := intMark x.2 (k + 1)
    refine ⟨[.int .i64 k, .list 1 ys], ?_⟩
    simp only [stepFact, h, Option.map_some, I1_len, Option.some.injEq, Prod.mk.injEq, true_and]
    omega) m
  refine ⟨ys, ?_⟩
  rw [h]
  congr 2
  have : ((A1 xs).map fun r => match r with | [_, .list _ l] => 1 + l.length | _ => 0).sum = xs.length + terms xs := by
    clear h
    induction xs with
    | nil => rfl
    | cons x r ih =>
      simp only [A1, List.map_cons, List.sum_cons, List.length_cons, terms, I1_len] at ih ⊢
      omega
  rw [this]
/-- the marks as the machine calls them -/
theorem e13 {a f a' f' : Ovi.Rows} {m1 m2 : Int} (h1 : mkRows (stepRel mt) a 1 = some (a', m1)) (h2 : mkRows stepFact f m1 = some (f', m2)) (hb : m2 ≤ 4611686018427387904) : C (k + 1) 13 [.var 0 0, .d (.bool true), .d (.int .i64 1), .d (.int .i64 ((86 : Nat) : Int)), .d (.list 3 a), .d (.int .i64 ((58 : Nat) : Int)), .d (.list 2 f)] = some [(false, [.row 86 3 a']), (false, [.row 58 2 f']), (false, [.d (.int .i64 m2)])] := by
  rw [C_prim (p := markP true (mkAg (stepInst mt))) rfl]
  have hs : stepInst mt [.list 3 a, .list 2 f] 1 = some ([.list 3 a', .list 2 f'], m2) := by
    simp only [stepInst, h1, Option.bind_some, h2, Option.map_some]
  have hp : parseM [.d (.int .i64 ((86 : Nat) : Int)), .d (.list 3 a), .d (.int .i64 ((58 : Nat) : Int)), .d (.list 2 f)] = some [.row 86 3 a, .row 58 2 f] := rfl
  have hm : mkAg (stepInst mt) [.row 86 3 a, .row 58 2 f] 1 = some ([.row 86 3 a', .row 58 2 f'], m2) := by
    simp only [mkAg, List.map_cons, List.map_nil, toD, hs, Option.map_some, ofD]
  simp only [markP]
  rw [show (true == true && decide ((0 : Int) ≤ 1)) = true from rfl, cond_true, hp]
  simp only [Option.bind_some, hm, decide_eq_true hb, cond_true]
  rfl
theorem e19 {a f a' f' : Ovi.Rows} {m1 m2 : Int} (h1 : mkRows (stepRel mt) a 1 = some (a', m1)) (h2 : mkRows stepFact f m1 = some (f', m2)) (hb : m2 ≤ 4611686018427387904) : C (k + 1) 19 [.var 0 0, .d (.bool true), .d (.int .i64 1), .d (.int .i64 ((86 : Nat) : Int)), .d (.list 3 a), .d (.int .i64 ((58 : Nat) : Int)), .d (.list 2 f), .d (.int .i64 ((101 : Nat) : Int)), .d (.list 3 [])] = some [(false, [.row 86 3 a']), (false, [.row 58 2 f']), (false, [.row 101 3 []]), (false, [.d (.int .i64 m2)])] := by
  rw [C_prim (p := markP true (mkAg (stepState mt))) rfl]
  have hs : stepState mt [.list 3 a, .list 2 f, .list 3 []] 1 = some ([.list 3 a', .list 2 f', .list 3 []], m2) := by
    simp only [stepState, stepInst, h1, Option.bind_some, h2, Option.map_some]
    rfl
  have hp : parseM [.d (.int .i64 ((86 : Nat) : Int)), .d (.list 3 a), .d (.int .i64 ((58 : Nat) : Int)), .d (.list 2 f), .d (.int .i64 ((101 : Nat) : Int)), .d (.list 3 [])] = some [.row 86 3 a, .row 58 2 f, .row 101 3 []] := rfl
  have hm : mkAg (stepState mt) [.row 86 3 a, .row 58 2 f, .row 101 3 []] 1 = some ([.row 86 3 a', .row 58 2 f', .row 101 3 []], m2) := by
    simp only [mkAg, List.map_cons, List.map_nil, toD, hs, Option.map_some, ofD]
  simp only [markP]
  rw [show (true == true && decide ((0 : Int) ≤ 1)) = true from rfl, cond_true, hp]
  simp only [Option.bind_some, hm, decide_eq_true hb, cond_true]
  rfl
theorem dep_rel {a : Ovi.Rows} (ha : Fit Rl (.list 3 a)) : depR 0 a = true := by
  unfold Rl at ha
  simp only [Fit] at ha
  refine List.all_eq_true.2 fun r hr => ?_
  obtain ⟨x0, r0, rfl, h0, hf0⟩ := Fits.cons (ha.2.2 r hr)
  obtain ⟨x1, r1, rfl, h1, hf1⟩ := Fits.cons hf0
  obtain ⟨x2, r2, rfl, h2, hf2⟩ := Fits.cons hf1
  obtain rfl := Fits.nil hf2
  obtain ⟨s, rfl, _⟩ := h0.str
  obtain ⟨z, rfl, _⟩ := h1.int
  obtain ⟨t, rfl⟩ := h2.bool
  rfl
theorem dep_facts (xs : List Atom) : depR 1 (A1 xs) = true := by
  refine List.all_eq_true.2 fun r hr => ?_
  obtain ⟨x, _, rfl⟩ := List.mem_map.1 hr
  simp only [List.all_cons, List.all_nil, Bool.and_true, depD, Bool.true_and, List.all_eq_true]
  intro r hr y hy
  obtain ⟨z, _, rfl⟩ := List.mem_map.1 hr
  simp only [List.mem_singleton] at hy
  subst hy
  rfl
end Go.Proofs.Ythicohakeljdcaa.Q

/-! Nbl -/
namespace Ovi
open Go
/-! ### The blocks of nulls, gathered by marks, stand in ascending order -/
theorem gath_head {F B : BL} (hI : BInv F B) {V M : List Int} (hV : ∀ z, z ∈ V ↔ ∃ b ∈ B, z ∈ b) (hS : SS V) (h : MI B M) (hg : ∀ z ∈ V, gd B M z) {i : Int} (hne : gath V M i ≠ []) : ∃ r, gath V M i = i :: r := by
  cases e : gath V M i with
  | nil => exact absurd e hne
  | cons k r =>
    have hk : k ∈ gath V M i := by rw [e]; exact List.mem_cons_self
    simp only [gath, List.mem_filter, decide_eq_true_eq] at hk
    obtain ⟨b, hb, hkb⟩ := (hV k).1 hk.1
    have h1 := (h.ok b hb k hkb).1
    rw [hk.2] at h1
    have hl : ∀ w ∈ b, i ≤ w := fun w hw => by have := hg k hk.1 b hb hkb w hw; omega
    have e2 := gath_eq hI hV hS h hg hb h1 hl
    rw [e] at e2
    subst e2
    have h3 := hl k hkb
    rcases List.mem_cons.1 h1 with h4 | h4
    · rw [h4]; exact ⟨r, rfl⟩
    · have := (List.pairwise_cons.1 (hI.ss _ hb)).1 i h4
      omega
theorem gather_sorted {F B : BL} (hI : BInv F B) {V M : List Int} (hV : ∀ z, z ∈ V ↔ ∃ b ∈ B, z ∈ b) (hS : SS V) (h : MI B M) (hg : ∀ z ∈ V, gd B M z) : (gather V M).Pairwise fun a b => ltL a b = true := by
  unfold gather
  rw [List.pairwise_filter, List.pairwise_map]
  refine hS.imp fun {i j} hij h1 h2 => ?_
  obtain ⟨r, e1⟩ := gath_head hI hV hS h hg (of_decide_eq_true h1)
  obtain ⟨r', e2⟩ := gath_head hI hV hS h hg (of_decide_eq_true h2)
  rw [e1, e2]
  unfold ltL cmpL
  rw [if_pos hij]
  rfl
theorem blocks_sorted (F : BL) (hF : ∀ m ∈ F, ∀ z ∈ m, in40 z) (V : List Int) (hS : SS V) (hV : ∀ z, z ∈ V ↔ ∃ m ∈ F, z ∈ m) : gather V (roundsM F V.length M0) = sortLists (blocks F) := by
  have hI := blocks_inv F
  have hB : ∀ b ∈ blocks F, ∀ z ∈ b, in40 z := fun b hb z hz => by
    obtain ⟨m, hm, hz⟩ := (hI.cov z).1 ⟨b, hb, hz⟩
    exact hF m hm z hz
  have hV' : ∀ z, z ∈ V ↔ ∃ b ∈ blocks F, z ∈ b := fun z => by rw [hV z, hI.cov z]
  obtain ⟨h1, h2⟩ := rounds_all (blocks F) hI hB (fun m hm => ⟨hF m hm, hI.inn m hm⟩) V hV' M0 (MI.start hB)
  have hs := gather_sorted hI hV' hS h1 h2
  refine srt_unique ?_ (hs.imp fun {a b} hab => ?_)
  · refine (List.perm_ext_iff_of_nodup ?_ ?_).2 (gather_mem hI hV' hS h1 h2)
    · refine hs.imp fun {a b} hab e => ?_
      subst e
      rw [swoL.irrefl] at hab
      cases hab
    · refine hI.dj.imp_of_mem fun {a b} ha hb hab e => ?_
      subst e
      cases e : a with
      | nil => exact hI.ne _ ha e
      | cons z r => exact hab z (by rw [e]; exact List.mem_cons_self) (by rw [e]; exact List.mem_cons_self)
  · cases h' : ltL b a with
    | false => rfl
    | true => have := swoL.trans _ _ _ hab h'; rw [swoL.irrefl] at this; cases this
end Ovi

/-! PMa -/
namespace Go.Proofs.Ythicohakeljdcaa.Q
open Go Ovi
variable {k : Nat}
/-- slices.Contains on integers -/
theorem c55 (zs : List Int) (v : Int) (hk : zs.length < k) (hz : zs.length ≤ maxLen) : C (k + 2) 55 [.d (.list 1 (I1 zs)), .d (.int .i64 v)] = bo (decide (v ∈ zs)) := by
  rw [F55.run, F84.run, I1_len]
  have := loop_find (xs := zs) (L := fun n i => F84.L2 k (C k) n (I1 zs) v (zs.length : Int) i) (stop := fun _ x => v == x) (hit := fun i => some [(false, [.d (.int .i64 (i : Int))])]) (fin := some [(false, [.d (.int .i64 (-1))])])
    (fun n i x hx => by
      have hi := (List.getElem?_eq_some_iff.1 hx).1
      rw [F84.L2.succ, I1_len, ite'_t (lt_t hi), ite'_t (inR_t hi)]
      simp only [Int.toNat_natCast, cellI_at (I1_get' hx), List.getElem?_cons_zero, Option.bind_some, asI_s, bindI_s]
      rw [next_i hi hz]; rfl)
    (fun n => by rw [F84.L2.succ, ite'_f (lt_f (by omega))]) k hk
  rcases this with ⟨i, x, hx, hst, e⟩ | ⟨hst, e⟩
  · rw [show F84.L2 k (C k) k (I1 zs) v (zs.length : Int) 0 = _ from e]
    simp only [bindR_s, resI_s, bindI_s]
    have : v = x := by simpa using hst
    subst this
    exact bo_eq (by rw [decide_eq_true (List.mem_of_getElem? hx)]; simp)
  · rw [show F84.L2 k (C k) k (I1 zs) v (zs.length : Int) 0 = _ from e]
    simp only [bindR_s, resI_s, bindI_s]
    refine bo_eq ?_
    rw [decide_eq_false (p := v ∈ zs) (fun h => ?_)]
    · rfl
    · obtain ⟨i, hi⟩ := List.mem_iff_getElem?.1 h
      have := hst i v hi
      simp at this
/-! ### blocks of nulls: the loops -/
def nl (xs : List Atom) : BL := xs.map fun x => nulls x.2
theorem nl_len (xs : List Atom) : (nl xs).length = xs.length := by simp [nl]
theorem nulls_in (zs : List Int) : ∀ z ∈ nulls zs, in40 z := by
  intro z hz
  obtain ⟨v, _, hv, rfl⟩ := (mem_nulls zs z).1 hz
  have := isN_t hv
  unfold in40; omega
theorem nl_in (xs : List Atom) : ∀ m ∈ nl xs, ∀ z ∈ m, in40 z := by
  intro m hm z hz
  obtain ⟨x, _, rfl⟩ := List.mem_map.1 hm
  exact nulls_in _ z hz
theorem nulls_short (zs : List Int) : (nulls zs).length ≤ 40 := ss_short (nulls_ss zs) (nulls_in zs)
theorem nl_take {xs : List Atom} {i : Nat} (h : i < xs.length) : (nl xs).take (i + 1) = (nl xs).take i ++ [nulls (xs[i]).2] := by
  rw [List.take_succ_eq_append_getElem (by rw [nl_len]; exact h)]
  simp [nl]
theorem blocks_snoc (F : BL) (m : List Int) : blocks (F ++ [m]) = stepB (blocks F) m := by simp [blocks]
theorem blocks_len (F B : BL) : (F.foldl stepB B).length ≤ B.length + F.length := by
  induction F generalizing B with
  | nil => exact Nat.le_refl _
  | cons m F ih =>
    have := ih (stepB B m)
    have := stepB_len B m
    simp only [List.foldl_cons, List.length_cons]
    omega
theorem blocks_short {F : BL} (hF : ∀ m ∈ F, ∀ z ∈ m, in40 z) : ∀ b ∈ blocks F, b.length ≤ 40 := by
  intro b hb
  have hI := blocks_inv F
  refine ss_short (hI.ss b hb) fun z hz => ?_
  obtain ⟨m, hm, hz⟩ := (hI.cov z).1 ⟨b, hb, hz⟩
  exact hF m hm z hz
theorem LL_get' {l : BL} {i : Nat} {zs : List Int} (h : l[i]? = some zs) : (LL l)[i]? = some [.list 1 (I1 zs)] := by simp [LL, h]
theorem LL_snoc (l : BL) (b : List Int) : LL l ++ [[D.list 1 (I1 b)]] = LL (l ++ [b]) := by simp [LL]
theorem I1_app (a b : List Int) : I1 a ++ I1 b = I1 (a ++ b) := by simp [I1]
/-- impl.NullBlocks, the loops -/
theorem nb_impl (xs : List Atom) (hI : ∀ x ∈ xs, ∀ z ∈ x.2, inI z) (hk : 2000000 ≤ k) (hs : terms xs + xs.length ≤ 1048576) (h30 : xs.length ≤ 30) :
    F22.L5 (k + 8) (C (k + 8)) (k + 8) (A1 xs) (xs.length : Int) 0 [] = some [(false, [.frow 26 1 1 (LL (sortLists (blocks (nl xs))))])] := by
  have hmax : (1048576 : Nat) ≤ maxLen := by decide
  have inner : ∀ (out : BL) (i : Nat), i < xs.length → out.length ≤ 31 → (∀ o ∈ out, o.length ≤ 40) → ∀ (m j n k5 lo : Nat) (b : List Int) (r : BL), lo ≤ j → j + m = out.length → m < n → b.length ≤ 40 + 40 * j → r.length ≤ j →
      F22.L11 (k + 8) (C (k + 8)) k5 n (A1 xs) (xs.length : Int) (i : Int) (out.length : Int) (j : Int) (I1 b) (LL r) (LL out) lo =
      F22.L5 (k + 8) (C (k + 8)) k5 (A1 xs) (xs.length : Int) ((i + 1 : Nat) : Int) (LL ((mergeF (out.drop j) b r).2 ++ [Lib.compact (sortInts (mergeF (out.drop j) b r).1)])) := by
    intro out i hi ho hl m
    induction m with
    | zero =>
      intro j n k5 lo b r hlo hm hn hb hr
      obtain ⟨n, rfl⟩ : ∃ j, n = j + 1 := ⟨n - 1, by omega⟩
      obtain rfl : j = out.length := by omega
      rw [List.drop_length, mergeF]
      have e1 : C (k + 8) 56 [.var 0 0, .d (.int .i64 3), .d (.list 1 (I1 b))] = some [(false, [.row 3 1 (I1 (sortInts b))])] := by
        show sortP _ = _
        unfold sortP rawArg
        simp only [ints_I1]
        rw [show Nat.ble b.length 1099511627776 = true from Nat.ble_eq_true_of_le (by omega)]
        rfl
      have hsl : (sortInts b).length = b.length := by simp [sortInts]
      have e2 : C (k + 8) 57 [.var 0 0, .d (.int .i64 3), .d (.list 1 (I1 (sortInts b)))] = some [(false, [.row 3 1 (I1 (Lib.compact (sortInts b)))]), (true, [])] := by
        show compactP _ = _
        unfold compactP rawArg
        simp only [ints_I1]
        rw [show Nat.ble (sortInts b).length 1099511627776 = true from Nat.ble_eq_true_of_le (by omega)]
        rfl
      rw [F22.L11.succ, ite'_f (lt_f (by omega)), e1]
      simp only [bindR_s, resO_s, bindL_s]
      rw [e2]
      show ite' (fits ((LL r).length + 1)) (F22.L5 (k + 8) (C (k + 8)) k5 (A1 xs) (xs.length : Int) (IntKind.i64.wrap ((i : Int) + 1)) (LL r ++ [[D.list 1 (I1 (Lib.compact (sortInts b)))]])) none = _
      rw [ite'_t (fits_t (by rw [LL_len]; omega)), next_i hi (m := xs.length) (by omega), LL_snoc]
    | succ m ih =>
      intro j n k5 lo b r hlo hm hn hb hr
      obtain ⟨n, rfl⟩ : ∃ j, n = j + 1 := ⟨n - 1, by omega⟩
      have hj : j < out.length := by omega
      have hx := List.getElem?_eq_getElem hj
      have hol := hl _ (List.getElem_mem hj)
      have e1 : C (k + 8) 53 [.d (.list 1 (I1 out[j])), .d (.fn 54 [[.list 1 (I1 b)]])] = bo (hits out[j] b) := by
        refine c53 (k := k + 6) out[j] 54 [[.list 1 (I1 b)]] (fun z => decide (z ∈ b)) (by omega) (by omega) fun z hz => ?_
        show C (k + 6) 54 [.d (.int .i64 z), .cap [.list 1 (I1 b)] 0] = _
        rw [F54.run, c55 (k := k + 3) b z (by omega) (by omega), bB]
        rfl
      rw [F22.L11.succ, LL_len, ite'_t (lt_t hj), ite'_t (inR_t hj)]
      simp only [Int.toNat_natCast, cellL_at (LL_get' hx), List.getElem?_cons_zero, Option.bind_some, asL_s, bindL_s]
      rw [e1, bB, next_i hj (m := out.length) (by omega), List.drop_eq_getElem_cons hj, mergeF]
      cases hits out[j] b with
      | true =>
        rw [ite'_t rfl, ite'_t (fits_t (by rw [I1_len, I1_len]; omega)), I1_app, cond_true]
        exact ih (j + 1) n k5 lo (b ++ out[j]) r (by omega) (by omega) (by omega) (by rw [List.length_append]; omega) (by omega)
      | false =>
        rw [ite'_f rfl, ite'_t (Nat.ble_eq_true_of_le (by simpa using hlo)), ite'_t (fits_t (by rw [LL_len]; simp; omega)), LL_snoc, cond_false]
        exact ih (j + 1) n k5 (j + 1) b (r ++ [out[j]]) (Nat.le_refl _) (by omega) (by omega) (by omega) (by rw [List.length_append, List.length_singleton]; omega)
  have main : ∀ (m i n : Nat), i + m = xs.length → m < n → F22.L5 (k + 8) (C (k + 8)) n (A1 xs) (xs.length : Int) (i : Int) (LL (blocks ((nl xs).take i))) = some [(false, [.frow 26 1 1 (LL (sortLists (blocks (nl xs))))])] := by
    intro m
    induction m with
    | zero =>
      intro i n hm hn
      obtain ⟨n, rfl⟩ : ∃ j, n = j + 1 := ⟨n - 1, by omega⟩
      obtain rfl : i = xs.length := by omega
      rw [List.take_of_length_le (by rw [nl_len]; omega)]
      have hbl := blocks_len (nl xs) []
      rw [nl_len] at hbl
      have hbl : (blocks (nl xs)).length ≤ xs.length := by simpa [blocks] using hbl
      have e1 : C (k + 8) 58 [.var 0 0, .d (.int .i64 26), .d (.list 1 (LL (blocks (nl xs)))), .d (.fn 59 [])] = some [(false, [.frow 26 1 1 (LL (sortLists (blocks (nl xs))))])] := by
        show sortGP 59 _ = _
        unfold sortGP sortFArg
        simp only [lists_LL, Option.bind_some]
        rw [show (Nat.ble (blocks (nl xs)).length 1099511627776 && (blocks (nl xs)).all fun z => Nat.ble z.length 1099511627776) = true by
          rw [Bool.and_eq_true, List.all_eq_true]
          exact ⟨Nat.ble_eq_true_of_le (by omega), fun z hz => Nat.ble_eq_true_of_le (by have := blocks_short (nl_in xs) z hz; omega)⟩]
        rfl
      rw [F22.L5.succ, ite'_f (lt_f (by omega)), e1]
      rfl
    | succ m ih =>
      intro i n hm hn
      obtain ⟨n, rfl⟩ : ∃ j, n = j + 1 := ⟨n - 1, by omega⟩
      have hi : i < xs.length := by omega
      have hx := List.getElem?_eq_getElem hi
      have hmem := List.getElem_mem hi
      have hlt := len_terms hmem
      rw [F22.L5.succ, A1_len, ite'_t (lt_t hi), ite'_t (inR_t hi)]
      simp only [Int.toNat_natCast, cellI_at (A1_get hx), cellL_at (A1_get hx), List.getElem?_cons_zero, List.getElem?_cons_succ, Option.bind_some, asI_s, asL_s, bindI_s, bindL_s]
      rw [c52 (k := k + 4) _ _ (hI _ hmem) (by omega) (by omega)]
      simp only [bindR_s, resO_s, bindL_s]
      have hnx := ih (i + 1) n (by omega) (by omega)
      rw [nl_take hi, blocks_snoc] at hnx
      rw [I1_len, LL_len]
      by_cases h0 : nulls (xs[i]).2 = []
      · rw [h0, ite'_t (by simp), next_i hi (m := xs.length) (by omega), ← hnx, stepB, if_pos h0]
      · rw [ite'_f (by simp [h0])]
        have hbl := blocks_len ((nl xs).take i) []
        rw [List.length_take, nl_len] at hbl
        have hbl : (blocks ((nl xs).take i)).length ≤ i := by simp only [List.length_nil] at hbl; unfold blocks; omega
        have := inner (blocks ((nl xs).take i)) i hi (by omega) (blocks_short fun m hm => nl_in xs m (List.mem_of_mem_take hm)) (blocks ((nl xs).take i)).length 0 (k + 8) n 0 (nulls (xs[i]).2) [] (Nat.le_refl _) (by omega) (by omega) (by have := nulls_short (xs[i]).2; omega) (Nat.zero_le _)
        rw [List.drop_zero] at this
        rw [← hnx, stepB, if_neg h0]
        exact this
  exact main xs.length 0 (k + 8) (by omega) (by omega)
end Go.Proofs.Ythicohakeljdcaa.Q

/-! PMb -/
namespace Go.Proofs.Ythicohakeljdcaa.Q
open Go Ovi
variable {k : Nat}
theorem rowsSet_I1 {M : List Int} {i : Nat} (z : Int) (h : i < M.length) : rowsSet (I1 M) i 0 [.int .i64 z] = I1 (M.set i z) := by
  have : (I1 M).getD i [] = [.int .i64 M[i]] := by simp [I1, List.getD, h]
  unfold rowsSet
  rw [this]
  simp [I1, List.map_set]
theorem mk_at {M : List Int} {z : Int} (hM : M.length = 40) (hz : in40 z) : M[z.toNat]? = some (mk M z) := by
  unfold in40 at hz
  have : z.toNat < M.length := by omega
  simp [mk, List.getD, this]
theorem inR40 {M : List Int} {z : Int} (hM : M.length = 40) (hz : in40 z) : inR z (I1 M).length = true := by
  unfold in40 at hz
  rw [I1_len, hM]
  simp only [inR, decide_eq_true_eq]
  omega
theorem minI_eq (a b : Int) : minI a b = min a b := by unfold minI; split <;> omega
theorem maxI_eq (a b : Int) : maxI a b = max a b := by unfold maxI; split <;> omega
theorem stepM_len (M m : List Int) : (stepM M m).length = M.length := setL_len _ _ _
theorem roundM_len (F : BL) (M : List Int) : (roundM F M).length = M.length := by
  unfold roundM
  induction F generalizing M with
  | nil => rfl
  | cons m F ih => rw [List.foldl_cons, ih, stepM_len]
/-- spec.NullBlocks, the loops -/
theorem nb_spec (a : Ovi.Rows) (xs : List Atom) (V : List Int) (hV : ∀ z ∈ V, in40 z) (hVl : V.length ≤ 40) (hI : ∀ x ∈ xs, ∀ z ∈ x.2, inI z) (hk : 2000000 ≤ k) (hs : terms xs + xs.length ≤ 1048576) (h30 : xs.length ≤ 30) :
    F21.L7 (k + 8) (C (k + 8)) (k + 8) (I1 V) 0 a (A1 xs) [] (I1 (List.replicate 40 0)) = some [(false, [.frow 26 1 1 (LL (gather V (roundsM (nl xs) V.length M0)))])] := by
  have hmax : (1048576 : Nat) ≤ maxLen := by decide
  -- the inner loops of a round
  have l19 : ∀ (ms M : List Int) (k11 k14 t i : Nat) (out : Ovi.Rows), ms.length ≤ 40 → (∀ z ∈ ms, in40 z) → M.length = 40 → ∀ (m j n : Nat) (l : Int), j + m = ms.length → m < n →
      F21.L19 (k + 8) (C (k + 8)) k11 k14 n (I1 V) (t : Int) (i : Int) (I1 ms) l (j : Int) a (A1 xs) out (I1 M) = F21.L23 (k + 8) (C (k + 8)) k11 k14 (k + 8) (I1 V) (t : Int) (i : Int) (I1 ms) ((ms.drop j).foldl (fun l z => min l (mk M z)) l) 0 a (A1 xs) out (I1 M) := by
    intro ms M k11 k14 t i out hml hms hM m
    induction m with
    | zero =>
      intro j n l hm hn
      obtain ⟨n, rfl⟩ : ∃ j, n = j + 1 := ⟨n - 1, by omega⟩
      obtain rfl : j = ms.length := by omega
      rw [F21.L19.succ, I1_len, ite'_f (lt_f (by omega)), List.drop_length]
      rfl
    | succ m ih =>
      intro j n l hm hn
      obtain ⟨n, rfl⟩ : ∃ j, n = j + 1 := ⟨n - 1, by omega⟩
      have hj : j < ms.length := by omega
      have hx := List.getElem?_eq_getElem hj
      have hz := hms _ (List.getElem_mem hj)
      rw [F21.L19.succ, I1_len, ite'_t (lt_t hj), ite'_t (inR_t hj)]
      simp only [Int.toNat_natCast, cellI_at (I1_get' hx), List.getElem?_cons_zero, Option.bind_some, asI_s, bindI_s]
      rw [ite'_t (inR40 hM hz)]
      simp only [cellI_at (I1_get' (mk_at hM hz)), List.getElem?_cons_zero, Option.bind_some, asI_s, bindI_s]
      rw [next_i hj (m := ms.length) (by omega), minI_eq, ih (j + 1) n _ (by omega) (by omega), List.drop_eq_getElem_cons hj, List.foldl_cons]
  have l23 : ∀ (ms : List Int) (k11 k14 t i : Nat) (out : Ovi.Rows) (l : Int), ms.length ≤ 40 → (∀ z ∈ ms, in40 z) → i < xs.length → ∀ (m j n : Nat) (M : List Int), j + m = ms.length → m < n → M.length = 40 →
      F21.L23 (k + 8) (C (k + 8)) k11 k14 n (I1 V) (t : Int) (i : Int) (I1 ms) l (j : Int) a (A1 xs) out (I1 M) = F21.L14 (k + 8) (C (k + 8)) k11 k14 (I1 V) (t : Int) ((i + 1 : Nat) : Int) a (A1 xs) out (I1 (setL M (ms.drop j) l)) := by
    intro ms k11 k14 t i out l hml hms hi m
    induction m with
    | zero =>
      intro j n M hm hn hM
      obtain ⟨n, rfl⟩ : ∃ j, n = j + 1 := ⟨n - 1, by omega⟩
      obtain rfl : j = ms.length := by omega
      rw [F21.L23.succ, I1_len, ite'_f (lt_f (by omega)), List.drop_length, next_i hi (m := xs.length) (by omega)]
      rfl
    | succ m ih =>
      intro j n M hm hn hM
      obtain ⟨n, rfl⟩ : ∃ j, n = j + 1 := ⟨n - 1, by omega⟩
      have hj : j < ms.length := by omega
      have hx := List.getElem?_eq_getElem hj
      have hz := hms _ (List.getElem_mem hj)
      have hz' := hz
      unfold in40 at hz'
      rw [F21.L23.succ, I1_len, ite'_t (lt_t hj), ite'_t (inR_t hj)]
      simp only [Int.toNat_natCast, cellI_at (I1_get' hx), List.getElem?_cons_zero, Option.bind_some, asI_s, bindI_s]
      rw [ite'_t (inR40 hM hz), next_i hj (m := ms.length) (by omega), rowsSet_I1 l (by omega), ih (j + 1) n _ (by omega) (by omega) (by simpa using hM), List.drop_eq_getElem_cons hj]
      rfl
  have l14 : ∀ (k11 t : Nat) (out : Ovi.Rows), t < V.length → ∀ (m i n : Nat) (M : List Int), i + m = xs.length → m < n → M.length = 40 →
      F21.L14 (k + 8) (C (k + 8)) k11 n (I1 V) (t : Int) (i : Int) a (A1 xs) out (I1 M) = F21.L11 (k + 8) (C (k + 8)) k11 (I1 V) ((t + 1 : Nat) : Int) a (A1 xs) out (I1 (((nl xs).drop i).foldl stepM M)) := by
    intro k11 t out ht m
    induction m with
    | zero =>
      intro i n M hm hn hM
      obtain ⟨n, rfl⟩ : ∃ j, n = j + 1 := ⟨n - 1, by omega⟩
      obtain rfl : i = xs.length := by omega
      rw [F21.L14.succ, A1_len, ite'_f (lt_f (by omega)), next_i ht (m := V.length) (by omega), List.drop_of_length_le (by rw [nl_len]; omega)]
      rfl
    | succ m ih =>
      intro i n M hm hn hM
      obtain ⟨n, rfl⟩ : ∃ j, n = j + 1 := ⟨n - 1, by omega⟩
      have hi : i < xs.length := by omega
      have hx := List.getElem?_eq_getElem hi
      have hmem := List.getElem_mem hi
      have hlt := len_terms hmem
      rw [F21.L14.succ, A1_len, ite'_t (lt_t hi), ite'_t (inR_t hi)]
      simp only [Int.toNat_natCast, cellI_at (A1_get hx), cellL_at (A1_get hx), List.getElem?_cons_zero, List.getElem?_cons_succ, Option.bind_some, asI_s, asL_s, bindI_s, bindL_s]
      rw [c29 (k := k + 5) _ _ (hI _ hmem) (by omega) (by omega)]
      simp only [bindR_s, resL_d, bindL_s]
      have hsh := nulls_short (xs[i]).2
      have := l19 (nulls (xs[i]).2) M k11 n t i out hsh (nulls_in _) hM (nulls (xs[i]).2).length 0 (k + 8) 40 (by omega) (by omega)
      rw [List.drop_zero] at this
      rw [show ((0 : Nat) : Int) = 0 from rfl] at this
      rw [this]
      have := l23 (nulls (xs[i]).2) k11 n t i out ((nulls (xs[i]).2).foldl (fun l z => min l (mk M z)) 40) hsh (nulls_in _) hi (nulls (xs[i]).2).length 0 (k + 8) M (by omega) (by omega) hM
      rw [List.drop_zero] at this
      rw [show ((0 : Nat) : Int) = 0 from rfl] at this
      rw [this, ih (i + 1) n _ (by omega) (by omega) (by rw [setL_len]; exact hM)]
      have hd : (nl xs).drop i = nulls (xs[i]).2 :: (nl xs).drop (i + 1) := by
        rw [List.drop_eq_getElem_cons (by rw [nl_len]; exact hi)]
        simp [nl]
      rw [hd]
      rfl
  have l11 : ∀ (out : Ovi.Rows) (m t n : Nat) (M : List Int), t + m = V.length → m < n → M.length = 40 →
      F21.L11 (k + 8) (C (k + 8)) n (I1 V) (t : Int) a (A1 xs) out (I1 M) = F21.L27 (k + 8) (C (k + 8)) (k + 8) (I1 V) 0 out (I1 (roundsM (nl xs) m M)) := by
    intro out m
    induction m with
    | zero =>
      intro t n M hm hn hM
      obtain ⟨n, rfl⟩ : ∃ j, n = j + 1 := ⟨n - 1, by omega⟩
      obtain rfl : t = V.length := by omega
      rw [F21.L11.succ, I1_len, ite'_f (lt_f (by omega))]
      rfl
    | succ m ih =>
      intro t n M hm hn hM
      obtain ⟨n, rfl⟩ : ∃ j, n = j + 1 := ⟨n - 1, by omega⟩
      have ht : t < V.length := by omega
      rw [F21.L11.succ, I1_len, ite'_t (lt_t ht)]
      have := l14 n t out ht xs.length 0 (k + 8) M (by omega) (by omega) hM
      rw [List.drop_zero] at this
      rw [show ((0 : Nat) : Int) = 0 from rfl] at this
      rw [this]
      exact ih (t + 1) n (roundM (nl xs) M) (by omega) (by omega) (by rw [roundM_len]; exact hM)
  have l28 : ∀ (M : List Int) (out : BL) (k27 i : Nat) (hi : i < V.length), M.length = 40 → out.length ≤ i → ∀ (m j n : Nat) (b : List Int), j + m = V.length → m < n → b.length ≤ j →
      F21.L31 (k + 8) (C (k + 8)) k27 n (I1 V) (i : Int) (j : Int) (LL out) (I1 M) (I1 b) = F21.L27 (k + 8) (C (k + 8)) k27 (I1 V) ((i + 1 : Nat) : Int) (LL (out ++ (if b ++ (V.drop j).filter (fun z => decide (mk M z = V[i])) ≠ [] then [b ++ (V.drop j).filter (fun z => decide (mk M z = V[i]))] else []))) (I1 M) := by
    intro M out k27 i hi hM ho m
    induction m with
    | zero =>
      intro j n b hm hn hb
      obtain ⟨n, rfl⟩ : ∃ j, n = j + 1 := ⟨n - 1, by omega⟩
      obtain rfl : j = V.length := by omega
      rw [F21.L31.succ, I1_len, ite'_f (lt_f (by omega)), List.drop_length, List.filter_nil, List.append_nil, I1_len, next_i hi (m := V.length) (by omega)]
      by_cases h0 : b = []
      · rw [h0, ite'_f (by simp), if_neg (by simp), List.append_nil]
      · have : 0 < b.length := List.length_pos_iff.2 h0
        rw [ite'_t (by simp; omega), if_pos h0, ite'_t (fits_t (by rw [LL_len]; simp; omega)), LL_snoc]
    | succ m ih =>
      intro j n b hm hn hb
      obtain ⟨n, rfl⟩ : ∃ j, n = j + 1 := ⟨n - 1, by omega⟩
      have hj : j < V.length := by omega
      have hx := List.getElem?_eq_getElem hj
      have hxi := List.getElem?_eq_getElem hi
      have hz := hV _ (List.getElem_mem hj)
      rw [F21.L31.succ, I1_len, ite'_t (lt_t hj), ite'_t (inR_t hj)]
      simp only [Int.toNat_natCast, cellI_at (I1_get' hx), List.getElem?_cons_zero, Option.bind_some, asI_s, bindI_s]
      rw [ite'_t (inR40 hM hz)]
      simp only [cellI_at (I1_get' (mk_at hM hz)), List.getElem?_cons_zero, Option.bind_some, asI_s, bindI_s]
      rw [ite'_t (inR_t hi)]
      simp only [Int.toNat_natCast, cellI_at (I1_get' hxi), List.getElem?_cons_zero, Option.bind_some, asI_s, bindI_s]
      rw [next_i hj (m := V.length) (by omega), List.drop_eq_getElem_cons hj]
      by_cases h : mk M V[j] = V[i]
      · rw [ite'_t (by simpa using h), ite'_t (inR_t hj), ite'_t (fits_t (by rw [I1_len]; simp; omega)), List.filter_cons_of_pos (by simpa using h)]
        have := ih (j + 1) n (b ++ [V[j]]) (by omega) (by omega) (by rw [List.length_append, List.length_singleton]; omega)
        rw [List.append_assoc, List.singleton_append] at this
        rw [← this, ← I1_app]
        rfl
      · rw [ite'_f (by simpa using h), List.filter_cons_of_neg (by simpa using h)]
        exact ih (j + 1) n b (by omega) (by omega) (by omega)
  have l27 : ∀ (M : List Int), M.length = 40 → ∀ (m i n : Nat) (out : BL), i + m = V.length → m < n → out.length ≤ i →
      F21.L27 (k + 8) (C (k + 8)) n (I1 V) (i : Int) (LL out) (I1 M) = some [(false, [.frow 26 1 1 (LL (out ++ ((V.drop i).map (gath V M)).filter fun b => decide (b ≠ [])))])] := by
    intro M hM m
    induction m with
    | zero =>
      intro i n out hm hn ho
      obtain ⟨n, rfl⟩ : ∃ j, n = j + 1 := ⟨n - 1, by omega⟩
      obtain rfl : i = V.length := by omega
      rw [F21.L27.succ, I1_len, ite'_f (lt_f (by omega)), List.drop_length]
      simp
    | succ m ih =>
      intro i n out hm hn ho
      obtain ⟨n, rfl⟩ : ∃ j, n = j + 1 := ⟨n - 1, by omega⟩
      have hi : i < V.length := by omega
      rw [F21.L27.succ, I1_len, ite'_t (lt_t hi)]
      have := l28 M out n i hi hM ho V.length 0 (k + 8) [] (by omega) (by omega) (Nat.zero_le _)
      rw [List.drop_zero, List.nil_append, show ((0 : Nat) : Int) = 0 from rfl] at this
      have e : V.filter (fun z => decide (mk M z = V[i])) = gath V M V[i] := rfl
      rw [e] at this
      rw [show F21.L31 (k + 8) (C (k + 8)) n (k + 8) (I1 V) (i : Int) 0 (LL out) (I1 M) [] = _ from this, List.drop_eq_getElem_cons hi, List.map_cons, List.filter_cons]
      by_cases h0 : gath V M V[i] = []
      · rw [if_neg (by simpa using h0), if_neg (by simpa using h0), List.append_nil]
        exact ih (i + 1) n out (by omega) (by omega) (by omega)
      · rw [if_pos h0, if_pos (by simpa using h0)]
        have := ih (i + 1) n (out ++ [gath V M V[i]]) (by omega) (by omega) (by rw [List.length_append, List.length_singleton]; omega)
        rw [this, List.append_assoc, List.singleton_append]
  have l7 : ∀ (m i n : Nat) (M : List Int), i + m = 40 → m < n → M.length = 40 → (∀ j, j < i → M[j]? = some (j : Int)) →
      F21.L7 (k + 8) (C (k + 8)) n (I1 V) (i : Int) a (A1 xs) [] (I1 M) = F21.L11 (k + 8) (C (k + 8)) (k + 8) (I1 V) 0 a (A1 xs) [] (I1 M0) := by
    intro m
    induction m with
    | zero =>
      intro i n M hm hn hM hj
      obtain ⟨n, rfl⟩ : ∃ j, n = j + 1 := ⟨n - 1, by omega⟩
      obtain rfl : i = 40 := by omega
      have : M = M0 := by
        apply List.ext_getElem?
        intro j
        by_cases h : j < 40
        · rw [hj j h]
          simp [M0, h]
        · rw [List.getElem?_eq_none (by omega), List.getElem?_eq_none (by simp [M0]; omega)]
      rw [F21.L7.succ, ite'_f (by decide), this]
    | succ m ih =>
      intro i n M hm hn hM hj
      obtain ⟨n, rfl⟩ : ∃ j, n = j + 1 := ⟨n - 1, by omega⟩
      have hi : i < 40 := by omega
      rw [F21.L7.succ, ite'_t (by simp; omega), I1_len, hM, ite'_t (inR_t hi), next_i hi (by omega)]
      simp only [Int.toNat_natCast]
      rw [rowsSet_I1 _ (by omega)]
      refine ih (i + 1) n _ (by omega) (by omega) (by simpa using hM) fun j hji => ?_
      rw [List.getElem?_set]
      by_cases h : i = j
      · subst h; simp [hM, hi]
      · rw [if_neg h]; exact hj j (by omega)
  have h7 := l7 40 0 (k + 8) (List.replicate 40 0) (by omega) (by omega) (by simp) (fun j hj => by omega)
  rw [show ((0 : Nat) : Int) = 0 from rfl] at h7
  rw [h7]
  have h11 := l11 [] V.length 0 (k + 8) M0 (by omega) (by omega) (by simp [M0])
  rw [show ((0 : Nat) : Int) = 0 from rfl] at h11
  rw [h11]
  have hrl : ∀ n M, (roundsM (nl xs) n M).length = M.length := by
    intro n
    induction n with
    | zero => intro M; rfl
    | succ n ih => intro M; show (roundsM (nl xs) n (roundM (nl xs) M)).length = _; rw [ih, roundM_len]
  have h27 := l27 (roundsM (nl xs) V.length M0) (by rw [hrl]; simp [M0]) V.length 0 (k + 8) [] (by omega) (by omega) (Nat.zero_le _)
  rw [show ((0 : Nat) : Int) = 0 from rfl, List.drop_zero, List.nil_append] at h27
  exact h27
theorem V_in (xs : List Atom) (z : Int) : z ∈ nulls (vals xs) ↔ ∃ m ∈ nl xs, z ∈ m := by
  rw [mem_nulls]
  constructor
  · rintro ⟨v, hv, h1, h2⟩
    obtain ⟨x, hx, hvx⟩ := List.mem_flatMap.1 hv
    exact ⟨nulls x.2, List.mem_map.2 ⟨x, hx, rfl⟩, (mem_nulls _ _).2 ⟨v, hvx, h1, h2⟩⟩
  · rintro ⟨m, hm, hz⟩
    obtain ⟨x, hx, rfl⟩ := List.mem_map.1 hm
    obtain ⟨v, hv, h1, h2⟩ := (mem_nulls _ _).1 hz
    exact ⟨v, List.mem_flatMap.2 ⟨x, hx, hv⟩, h1, h2⟩
end Go.Proofs.Ythicohakeljdcaa.Q

/-! PMc -/
namespace Go.Proofs.Ythicohakeljdcaa.Q
open Go Ovi
/-- laws.eqIntSS -/
theorem l23 {k : Nat} (hk : 2000001 ≤ k) {a : Ovi.Rows} (ha : Fit (.list [.list [.int .i64]]) (.list 1 a)) (hs : szR a ≤ 1048576) : ∀ (m i n : Nat), i + m = a.length → m < n → F23.L4 k (C k) n a a (i : Int) = some [(false, [.d (.bool true)])] := by
  have hlen := ha.len
  intro m; induction m with
  | zero =>
    intro i n hm hn
    obtain ⟨n, rfl⟩ : ∃ j, n = j + 1 := ⟨n - 1, by omega⟩
    rw [F23.L4.succ, ite'_f (lt_f (by omega))]
  | succ m ih =>
    intro i n hm hn
    obtain ⟨n, rfl⟩ : ∃ j, n = j + 1 := ⟨n - 1, by omega⟩
    obtain ⟨row, hr, hfr, hdr⟩ := ha.row (i := i) (by omega)
    obtain ⟨d0, rr0, rfl, hd0, hfr0⟩ := Fits.cons hfr
    obtain ⟨x0, rfl, hx0⟩ := hd0.list (n := 1) rfl
    obtain rfl := Fits.nil hfr0
    have hszr := szR_at hr
    rw [F23.L4.succ, ite'_t (lt_t (by omega)), ite'_t (inR_t (by omega))]
    simp only [Int.toNat_natCast, cellI_at hr, cellB_at hr, cellS_at hr, cellL_at hr]
    simp only [List.getElem?_cons_zero, List.getElem?_cons_succ, Option.bind_some, asI_s, asB_s, asS_s, asL_s, bindI_s, bindB_s, bindS_s, bindL_s, bindR_s, resI_s, resB_s, resS_s, resO_s, resF_s, bne_self_eq_false, beq_self_eq_true, Bool.not_true]
    rw [ite'_t (inR_t (by omega))]
    rw [c12 (k := k) (by omega)  hx0 (by simp only [szC, szD] at hszr ⊢; omega)]
    simp only [List.getElem?_cons_zero, List.getElem?_cons_succ, Option.bind_some, asI_s, asB_s, asS_s, asL_s, bindI_s, bindB_s, bindS_s, bindL_s, bindR_s, resI_s, resB_s, resS_s, resO_s, resF_s, bne_self_eq_false, beq_self_eq_true, Bool.not_true]
    rw [ite'_f rfl, wrap_succ (m := a.length) (by omega) (by omega) hlen]
    rw [show ((i : Int) + 1) = ((i + 1 : Nat) : Int) by omega]
    exact ih (i + 1) n (by omega) (by omega)
theorem c23 {k : Nat} (hk : 2000002 ≤ k) {a : Ovi.Rows} (ha : Fit (.list [.list [.int .i64]]) (.list 1 a)) (hs : szD (.list 1 a) ≤ 1048576) : C k 23 [.d (.list 1 a), .d (.list 1 a)] = some [(false, [.d (.bool true)])] := by
  obtain ⟨k, rfl⟩ : ∃ j, k = j + 1 := ⟨k - 1, by omega⟩
  simp only [szD] at hs
  rw [F23.run, ite'_f (bne_f _)]
  exact l23 (k := k) (by omega) ha (by omega) a.length 0 k (by omega) (by omega)
variable {k : Nat}
/-! ### the blocks, marked and held -/
theorem lists_fit (B : BL) (h : ∀ b ∈ B, ∀ z ∈ b, inI z) (hl : B.length ≤ maxLen) (hb : ∀ b ∈ B, b.length ≤ maxLen) : Fit (.list [.list [.int .i64]]) (.list 1 (LL B)) := by
  simp only [Fit]
  refine ⟨rfl, by rw [LL_len]; exact hl, fun r hr => ?_⟩
  obtain ⟨b, hb', rfl⟩ := List.mem_map.1 hr
  simp only [Fits, Fit]
  refine ⟨⟨rfl, by rw [I1_len]; exact hb b hb', fun r hr => ?_⟩, trivial⟩
  obtain ⟨z, hz, rfl⟩ := List.mem_map.1 hr
  simp only [Fits, Fit]
  have hz' := h b hb' z hz
  unfold inI at hz'
  refine ⟨⟨trivial, ?_⟩, trivial⟩
  simp only [Lit.wf, IntKind.min, IntKind.max, IntKind.signed, IntKind.bits, Bool.and_eq_true, decide_eq_true_eq]
  simpa using hz'
def tot (B : BL) : Nat := (B.map List.length).sum
theorem lists_sz (B : BL) : szD (.list 1 (LL B)) = B.length + tot B := by
  have hI : ∀ zs : List Int, szR (I1 zs) = 0 := fun zs => by
    induction zs with
    | nil => rfl
    | cons z r ih => simpa [I1, szR, szC, szD] using ih
  simp only [szD, LL_len]
  congr 1
  induction B with
  | nil => rfl
  | cons b r ih =>
    simp only [LL, List.map_cons, szR, szC, szD, tot, List.sum_cons, hI, I1_len] at ih ⊢
    omega
theorem intsMark (B : BL) (m : Int) : ∃ ys, mkRows stepInts (LL B) m = some (ys, m + (tot B : Nat)) := by
  obtain ⟨ys, h⟩ := mkRows_total (step := stepInts) (c := fun r => match r with | [.list _ l] => l.length | _ => 0) (xs := LL B) (fun r hr k => by
    obtain ⟨b, _, rfl⟩ := List.mem_map.1 hr
    obtain ⟨ys, h⟩ := intMark b k
    refine ⟨[.list 1 ys], ?_⟩
    simp only [stepInts, h, Option.map_some, I1_len]) m
  refine ⟨ys, ?_⟩
  rw [h]
  congr 2
  have : ((LL B).map fun r => match r with | [.list _ l] => l.length | _ => 0).sum = tot B := by
    clear h
    unfold tot
    induction B with
    | nil => rfl
    | cons x r ih =>
      simp only [LL, List.map_cons, List.sum_cons, I1_len] at ih ⊢
      omega
  rw [this]
theorem c25 {xs ys : Ovi.Rows} {m m' : Int} (h : mkRows stepInts xs m = some (ys, m')) (h0 : 0 ≤ m) (h1 : m' ≤ 4611686018427387904) (hl : ys.length ≤ 1048576) (hin : ∀ r ∈ xs, ∀ l, r = [.list 1 l] → l.length ≤ 1048576) (hk : 2000000 ≤ k) : C (k + 2) 25 [.d (.list 1 ys), .d (.int .i64 m)] = some [(false, [.d (.int .i64 m')])] := by
  have hmax : (1048576 : Nat) ≤ maxLen := by decide
  obtain ⟨κ, q0, q1, q2, q3⟩ := mkRows_chain h
  rw [F25.run]
  have key : ∀ (a i n : Nat), i + a = ys.length → a < n → F25.L2 (k + 1) (C (k + 1)) n ys (κ i) (i : Int) = some [(false, [.d (.int .i64 m')])] := by
    intro a
    induction a with
    | zero =>
      intro i n hm hn
      obtain ⟨n, rfl⟩ : ∃ j, n = j + 1 := ⟨n - 1, by omega⟩
      obtain rfl : i = ys.length := by omega
      rw [F25.L2.succ, ite'_f (lt_f (by omega)), q1]
    | succ a ih =>
      intro i n hm hn
      obtain ⟨n, rfl⟩ : ∃ j, n = j + 1 := ⟨n - 1, by omega⟩
      have hi : i < ys.length := by omega
      obtain ⟨r, r', p1, p2, p3⟩ := q3 i hi
      obtain ⟨l, l', rfl, hm1, rfl⟩ := stepInts_some p3
      have b1 := chain_le stepInts_up q3 (Nat.zero_le i) (by omega)
      have b2 := chain_le stepInts_up q3 (show i + 1 ≤ ys.length by omega) (Nat.le_refl _)
      have b3 := mkRows_up stepInt_up hm1
      have b4 := hin _ (List.mem_of_getElem? p1) l rfl
      rw [F25.L2.succ, ite'_t (lt_t hi), ite'_t (inR_t hi)]
      simp only [Int.toNat_natCast, cellL_at p2, List.getElem?_cons_zero, Option.bind_some, asL_s, bindL_s]
      rw [c60 hm1 (by omega) (by omega) (by omega) hk]
      simp only [bindR_s, resI_s, bindI_s]
      rw [ite'_f (neg_f (by omega)), wrap_succ (m := ys.length) (by omega) (by omega) (by omega), show ((i : Int) + 1) = ((i + 1 : Nat) : Int) by omega]
      exact ih (i + 1) n (by omega) (by omega)
  have := key ys.length 0 (k + 1) (by omega) (by omega)
  rwa [q0] at this
theorem e24 {a a' : Ovi.Rows} {m : Int} (h1 : mkRows stepInts a 1 = some (a', m)) (hb : m ≤ 4611686018427387904) : C (k + 1) 24 [.var 0 0, .d (.bool false), .d (.int .i64 1), .d (.int .i64 ((26 : Nat) : Int)), .d (.list 1 a)] = some [(false, [.row 26 1 a']), (false, [.d (.int .i64 m)])] := by
  rw [C_prim (p := markP false (mkLs 1 (mkRows stepInts))) rfl]
  have hp : parseM [.d (.int .i64 ((26 : Nat) : Int)), .d (.list 1 a)] = some [.row 26 1 a] := rfl
  have hm : mkLs 1 (mkRows stepInts) [.row 26 1 a] 1 = some ([.row 26 1 a'], m) := by
    simp only [mkLs, show Nat.beq 1 1 = true from rfl, cond_true, h1, Option.map_some]
  simp only [markP]
  rw [show (false == false && decide ((0 : Int) ≤ 1)) = true from rfl, cond_true, hp]
  simp only [Option.bind_some, hm, decide_eq_true hb, cond_true]
  rfl
theorem dep_lists (B : BL) : depR 1 (LL B) = true := by
  refine List.all_eq_true.2 fun r hr => ?_
  obtain ⟨x, _, rfl⟩ := List.mem_map.1 hr
  simp only [List.all_cons, List.all_nil, Bool.and_true, depD, Bool.true_and, List.all_eq_true]
  intro r hr y hy
  obtain ⟨z, _, rfl⟩ := List.mem_map.1 hr
  simp only [List.mem_singleton] at hy
  subst hy
  rfl
end Go.Proofs.Ythicohakeljdcaa.Q

/-! PMd -/
namespace Go.Proofs.Ythicohakeljdcaa.Q
open Go Ovi
variable {k : Nat}
theorem sz_atoms {xs : List Atom} : szD (.list 2 (A1 xs)) = xs.length + terms xs := by
  have hI : ∀ zs : List Int, szR (I1 zs) = 0 := fun zs => by
    induction zs with
    | nil => rfl
    | cons z r ih => simpa [I1, szR, szC, szD] using ih
  simp only [szD, A1_len]
  congr 1
  induction xs with
  | nil => rfl
  | cons x r ih =>
    simp only [A1, List.map_cons, szR, szC, szD, terms, List.sum_cons, hI, I1_len] at ih ⊢
    omega
theorem sz_rels {a : Ovi.Rows} : a.length ≤ szD (.list 3 a) := by simp only [szD]; omega
/-- NullBlocks: both -/
theorem nbB {a : Ovi.Rows} (ha : Fit Rl (.list 3 a)) (xs : List Atom) (hI : ∀ x ∈ xs, ∀ z ∈ x.2, inI z) (hs : terms xs + xs.length ≤ 1048576) (hal : a.length ≤ 1048576) :
    ∃ (B : BL) (R : Res), B.length ≤ 30 ∧ (∀ b ∈ B, b.length ≤ 40 ∧ ∀ z ∈ b, in40 z) ∧ resF 26 1 1 1 false 1 R 0 0 = some (LL B) ∧ ∀ k, 2000000 ≤ k → C (k + 9) 21 [.agg [.d (.list 3 a), .d (.list 2 (A1 xs))]] = some R ∧ C (k + 9) 22 [.agg [.d (.list 3 a), .d (.list 2 (A1 xs))]] = some R := by
  obtain ⟨b, hb1, hb2⟩ := instB ha xs hI hs hal
  cases b with
  | false =>
    refine ⟨[], [(false, [.nil])], by simp, by simp, rfl, fun k hk => ?_⟩
    obtain ⟨h34, h28⟩ := hb2 k hk
    refine ⟨?_, ?_⟩
    · rw [F21.run, h28, bB, ite'_nf]
    · rw [F22.run, h34, bB, ite'_nf]
  | true =>
    obtain ⟨h30, _⟩ := hb1 rfl
    have hbl := blocks_len (nl xs) []
    rw [nl_len, List.length_nil] at hbl
    have hbl : (blocks (nl xs)).length ≤ 30 := by unfold blocks; omega
    refine ⟨sortLists (blocks (nl xs)), [(false, [.frow 26 1 1 (LL (sortLists (blocks (nl xs))))])], by rw [sortLists_len]; exact hbl, fun b hb => ?_, rfl, fun k hk => ?_⟩
    · have hb := (mem_sortLists _ _).1 hb
      refine ⟨blocks_short (nl_in xs) b hb, fun z hz => ?_⟩
      obtain ⟨m, hm, hz⟩ := ((blocks_inv (nl xs)).cov z).1 ⟨b, hb, hz⟩
      exact nl_in xs m hm z hz
    · obtain ⟨h34, h28⟩ := hb2 k hk
      refine ⟨?_, ?_⟩
      · rw [F21.run, h28, bB, ite'_nt, c51 (k := k + 4) a xs hI (by omega) hs]
        simp only [bindR_s, resL_d, bindL_s]
        rw [← blocks_sorted (nl xs) (nl_in xs) _ (nulls_ss _) (V_in xs)]
        exact nb_spec a xs _ (nulls_in _) (nulls_short _) hI hk hs h30
      · rw [F22.run, h34, bB, ite'_nt, A1_len]
        exact nb_impl xs hI hk hs h30
theorem law5n (call : CallF) (k : Nat) {a b : Ovi.Rows} {n : Int}
    (t6 : call 6 [.agg [.d (.list 3 a), .d (.list 2 b)], .d (.int .i64 1048576)] = some [(false, [.d (.int .i64 n)])]) (hn : decide (n < 0) = true) :
    evFnK P hs call (5 : FuncId) k Try.f5 [.agg [.s 3 a, .s 2 b]] = bo true := by
  rw [F5.eq, t6, bindR_s, resI_s, bindI_s, ite'_t hn]
  rfl
theorem law5q (call : CallF) (k : Nat) {a b a' f' B B' : Ovi.Rows} {n za zb : Int} {X8 R X13 X24 : Res}
    (t6 : call 6 [.agg [.d (.list 3 a), .d (.list 2 b)], .d (.int .i64 1048576)] = some [(false, [.d (.int .i64 n)])]) (hn : decide (n < 0) = false)
    (t8 : call 8 [.agg [.d (.list 3 a), .d (.list 2 b)]] = some X8) (x0 : resO 86 3 1 true 2 X8 0 0 = some a) (x1 : resF 58 2 1 1 true 2 X8 0 1 = some b)
    (t21 : call 21 [.agg [.d (.list 3 a), .d (.list 2 b)]] = some R) (t22 : call 22 [.agg [.d (.list 3 a), .d (.list 2 b)]] = some R)
    (r0 : resF 26 1 1 1 false 1 R 0 0 = some B)
    (d1 : depR 0 a = true) (d2 : depR 1 b = true) (d3 : depR 1 B = true)
    (t23 : call 23 [.d (.list 1 B), .d (.list 1 B)] = some [(false, [.d (.bool true)])])
    (t11 : call 11 [.agg [.d (.list 3 a), .d (.list 2 b)], .agg [.d (.list 3 a), .d (.list 2 b)]] = some [(false, [.d (.bool true)])])
    (m13 : call 13 [.var 0 0, .d (.bool true), .d (.int .i64 1), .d (.int .i64 86), .d (.list 3 a), .d (.int .i64 58), .d (.list 2 b)] = some X13)
    (v0 : resO 86 3 3 false 1 X13 0 0 = some a') (v1 : resO 58 2 3 false 1 X13 1 0 = some f') (v2 : resI .i64 3 false 1 X13 2 0 = some za) (hza : 0 ≤ za)
    (m24 : call 24 [.var 0 0, .d (.bool false), .d (.int .i64 1), .d (.int .i64 26), .d (.list 1 B)] = some X24)
    (u0 : resO 26 1 2 false 1 X24 0 0 = some B') (u1 : resI .i64 2 false 1 X24 1 0 = some zb) (hzb : 0 ≤ zb)
    (t25 : call 25 [.d (.list 1 B'), .d (.int .i64 1)] = some [(false, [.d (.int .i64 zb)])]) :
    evFnK P hs call (5 : FuncId) k Try.f5 [.agg [.s 3 a, .s 2 b]] = bo true := by
  have n1 : decide (za < 0) = false := by simp only [decide_eq_false_iff_not]; omega
  have n2 : decide (zb < 0) = false := by simp only [decide_eq_false_iff_not]; omega
  have n3 : (zb != zb) = false := bne_self _
  have tt : (!true) = false := rfl
  have i0 : ∀ (x y : Option Res), ite' false x y = y := fun _ _ => rfl
  have i1 : ∀ (x y : Option Res), ite' true x y = x := fun _ _ => rfl
  rw [F5.eq, t6, bindR_s, resI_s, bindI_s, hn, i0]
  simp only [t8, bindR_s, x0, x1, bindL_s, t21, t22, r0, d1, d2, d3, i1, t23, resB_s, bindB_s, tt, i0, t11]
  rw [m13]
  simp only [bindR_s, v0, v1, v2, bindL_s, bindI_s, n1, i0, t23, resB_s, bindB_s, tt, d3, i1]
  rw [m24]
  simp only [bindR_s, u0, u1, bindL_s, bindI_s, t25, resI_s, n2, n3, i0]
  rfl
set_option maxRecDepth 1000000 in
theorem law5 (hk : 3000000 ≤ k) {a b : Ovi.Rows} (h1 : Fit Rl (.list 3 a)) (h2 : Fit (.list [.int .i64, .list [.int .i64]]) (.list 2 b)) : C k 5 [.agg [.s 3 a, .s 2 b]] = bo true := by
  obtain ⟨k, rfl⟩ : ∃ j, k = j + 12 := ⟨k - 12, by omega⟩
  have hs5 : C (k + 11 + 1) 5 [.agg [.s 3 a, .s 2 b]] = evFnK P hs (C (k + 11)) 5 (k + 11) Try.f5 [.agg [.s 3 a, .s 2 b]] := by kernel_rfl
  rw [hs5]
  have t6 := c6 (k := k + 11) (by omega) h1 h2 (left := 1048576) (by omega) (by omega)
  rcases szT_cases 1048576 (szC [.list 3 a, .list 2 b]) with ⟨q1, e1⟩ | ⟨q1, e1⟩ <;> rw [e1] at t6
  rotate_left
  · exact law5n _ _ t6 neg_t
  have p1 := q1
  simp only [szC] at p1
  have z1 : szD (.list 3 a) ≤ 1048576 := by omega
  have z2 : szD (.list 2 b) ≤ 1048576 := by omega
  have t8 := c8 (k := k + 11) (by omega) h1 h2 z1 z2
  have t11 := c11 (k := k + 11) (by omega) h1 h2 z1 z2
  obtain ⟨xs, rfl, hX⟩ := h2.atoms'
  have y2 := z2
  rw [sz_atoms] at y2
  have ya := Nat.le_trans sz_rels z1
  obtain ⟨B, R, hB1, hB2, hR, hg⟩ := nbB h1 xs (fun x hx => (hX x hx).2) (by omega) ya
  obtain ⟨g21, g22⟩ := hg (k + 2) (by omega)
  have hmax : (1048576 : Nat) ≤ maxLen := by decide
  have hBt : tot B ≤ 40 * B.length := by
    unfold tot
    clear hg hR hB1
    induction B with
    | nil => simp
    | cons b r ih =>
      have h3 := (hB2 b List.mem_cons_self).1
      have h4 := ih fun b hb => hB2 b (List.mem_cons_of_mem _ hb)
      simp only [List.map_cons, List.sum_cons, List.length_cons]
      omega
  have hBf : Fit (.list [.list [.int .i64]]) (.list 1 (LL B)) := lists_fit B (fun b hb z hz => by have := (hB2 b hb).2 z hz; unfold in40 at this; unfold inI; omega) (by omega) (fun b hb => by have := (hB2 b hb).1; omega)
  have t23 := c23 (k := k + 11) (by omega) hBf (by rw [lists_sz]; omega)
  -- the marks
  have h86 : ((86 : Nat) : Int) = 86 := rfl
  have h58 : ((58 : Nat) : Int) = 58 := rfl
  have h26 : ((26 : Nat) : Int) = 26 := rfl
  obtain ⟨a', ha'⟩ := relMark h1 1
  obtain ⟨f', hf'⟩ := factMark xs (1 + 3 * a.length)
  have m13 := e13 (k := k + 10) ha' hf' (by omega)
  rw [h86, h58] at m13
  obtain ⟨B', hB'⟩ := intsMark B 1
  have m24 := e24 (k := k + 10) hB' (by omega)
  rw [h26] at m24
  have lB := (mkRows_up stepInts_up hB').2
  rw [LL_len] at lB
  have m25 := c25 (k := k + 9) hB' (by omega) (by omega) (by omega) (fun r hr l e => by
    obtain ⟨b, hb, rfl⟩ := List.mem_map.1 hr
    cases e
    rw [I1_len]
    have := (hB2 b hb).1
    omega) (by omega)
  exact law5q (C (k + 11)) (k + 11) t6 (neg_f (by omega)) t8 F8x0 F8x1 g21 g22 hR (dep_rel h1) (dep_facts xs) (dep_lists B) t23 t11
    m13 rfl rfl rfl (by omega) m24 rfl rfl (by omega) m25
end Go.Proofs.Ythicohakeljdcaa.Q

/-! Wa -/
namespace Go.Proofs
open Go.Shelf Go.RowKit Go.Lib Ovi
set_option maxHeartbeats 4000000 in
set_option maxRecDepth 1000000 in
theorem Try.mIntS : ListC Try.prog 14 1 (mkRows stepInt) := by
  intro w v xs B n k xs' k' hd hf hr hm hk hk2 hB
  rcases Fo.rows hd hf hr with ⟨rfl, A, cap, rfl⟩ | ⟨b, cap, e, g, rfl, hle, hcap, hBb, hgB, hrow⟩
  · cases hm
    go_enter Try.func14, Try.ntmps14
    go_wp2
    go_loopg [1, 5] 0 (fun g s1 s5 wr => s1 = .int .i64 k ∧ s5 = .int .i64 0 ∧ wr = w)
    case atStart => exact ⟨rfl, rfl, rfl⟩
    case round =>
      obtain ⟨rfl, rfl, rfl⟩ := hrel
      go_wp2
      go_ret
      exact ⟨rfl, Ovi.But.refl _ _, hr, _, hd, hf⟩
  · have hcap' := hcap
    unfold maxLen at hcap'
    have hl := (mkRows_up stepInt_up hm).2
    generalize hN : xs.length = N at *
    go_enter Try.func14, Try.ntmps14
    go_wp2
    go_loopg [1, 5] N (fun gk s1 s5 wr => ∃ (i : Nat) (ys : Ovi.Rows) (k1 : Int), i ≤ N ∧ N - i ≤ gk ∧ s5 = .int .i64 i ∧ s1 = .int .i64 k1 ∧ mkN stepInt i xs k = some (ys, k1) ∧ Ovi.But B w wr ∧ RowG wr NT b cap e 1 ys g)
    case atStart => exact ⟨0, xs, k, by omega, by omega, rfl, rfl, rfl, Ovi.But.refl _ _, hrow⟩
    case round =>
      obtain ⟨i, ys, k1, hi, hg, rfl, rfl, hmk, hbut0, hrow0⟩ := hrel
      by_cases hlt : i < N
      · obtain ⟨r, r', k2, hyr, hst, hmk2, b1, b2, b3, _⟩ := mkN_next stepInt_up hm hmk (by omega)
        obtain ⟨z0, rfl, rfl, rfl⟩ := stepInt_some hst
        have hx0_0 : cellD ys i 0 = some (.int .i64 z0) := by simp [cellD, hyr]
        obtain ⟨u0, hc0, hf0, _⟩ := hrow0.at hx0_0
        have hrow1 := hrow0.set (fun h => h) hx0_0 (v := .int .i64 k1) (d := .int .i64 k1) rfl (.int _ _)
        have hbut1 : Ovi.But B w ((wr).setCell ⟨b, i * 1 + 0, none⟩ (.int .i64 k1)) := hbut0.trans (Ovi.But.setCell hBb)
        simp only [Nat.mul_one, Nat.add_zero] at hc0 hf0 hrow1 hbut1
        go_wp2
        go_roundg (N - i - 1)
        case measure => omega
        case rel => exact ⟨i + 1, _, (k1 + 1), by omega, by omega, by go_num, by first | rfl | go_num, hmk2, hbut1, by rw [setD_at hyr] at hrow1; simpa using hrow1⟩
      · obtain rfl : i = N := by omega
        go_wp2
        go_ret
        rw [← hN] at hmk
        have he : some (ys, k1) = some (xs', k') := hmk.symm.trans hm
        cases he
        obtain ⟨q1, q2⟩ := hrow0.forest hcap hBb hgB
        rw [hl] at q1 q2
        exact ⟨rfl, hbut0, q1, q2⟩
set_option maxHeartbeats 4000000 in
set_option maxRecDepth 1000000 in
theorem Try.mFactS : ListC Try.prog 42 2 (mkRows stepFact) := by
  intro w v xs B n k xs' k' hd hf hr hm hk hk2 hB
  rcases Fo.rows hd hf hr with ⟨rfl, A, cap, rfl⟩ | ⟨b, cap, e, g, rfl, hle, hcap, hBb, hgB, hrow⟩
  · cases hm
    go_enter Try.func42, Try.ntmps42
    go_wp2
    go_loopg [1, 5] 0 (fun g s1 s5 wr => s1 = .int .i64 k ∧ s5 = .int .i64 0 ∧ wr = w)
    case atStart => exact ⟨rfl, rfl, rfl⟩
    case round =>
      obtain ⟨rfl, rfl, rfl⟩ := hrel
      go_wp2
      go_ret
      exact ⟨rfl, Ovi.But.refl _ _, hr, _, hd, hf⟩
  · have hcap' := hcap
    unfold maxLen at hcap'
    have hl := (mkRows_up stepFact_up hm).2
    generalize hN : xs.length = N at *
    go_enter Try.func42, Try.ntmps42
    go_wp2
    go_loopg [1, 5] N (fun gk s1 s5 wr => ∃ (i : Nat) (ys : Ovi.Rows) (k1 : Int), i ≤ N ∧ N - i ≤ gk ∧ s5 = .int .i64 i ∧ s1 = .int .i64 k1 ∧ mkN stepFact i xs k = some (ys, k1) ∧ Ovi.But B w wr ∧ RowG wr NT b cap e 2 ys g)
    case atStart => exact ⟨0, xs, k, by omega, by omega, rfl, rfl, rfl, Ovi.But.refl _ _, hrow⟩
    case round =>
      obtain ⟨i, ys, k1, hi, hg, rfl, rfl, hmk, hbut0, hrow0⟩ := hrel
      by_cases hlt : i < N
      · obtain ⟨r, r', k2, hyr, hst, hmk2, b1, b2, b3, _⟩ := mkN_next stepFact_up hm hmk (by omega)
        obtain ⟨z0, l1, l1', rfl, hl1, rfl⟩ := stepFact_some hst
        have hx0_0 : cellD ys i 0 = some (.int .i64 z0) := by simp [cellD, hyr]
        have hx1_0 : cellD ys i 1 = some (.list 1 l1) := by simp [cellD, hyr]
        have hup1 := (mkRows_up stepInt_up hl1).1
        obtain ⟨u0, hc0, hf0, _⟩ := hrow0.at hx0_0
        have hrow1 := hrow0.set (fun h => h) hx0_0 (v := .int .i64 k1) (d := .int .i64 k1) rfl (.int _ _)
        have hbut1 : Ovi.But B w ((wr).setCell ⟨b, i * 2 + 0, none⟩ (.int .i64 k1)) := hbut0.trans (Ovi.But.setCell hBb)
        have hx1_1 := setD_other (d := .int .i64 k1) hx1_0 (by decide : 1 ≠ 0)
        obtain ⟨u1, hc1, hf1, hr1, n1, hd1, ho1⟩ := hrow1.at hx1_1
        have hglt1 : ∀ j c' k, g j c' k → k < ((wr).setCell ⟨b, i * 2 + 0, none⟩ (.int .i64 k1)).heap.size := fun j c' k hk => Nat.lt_of_lt_of_le (hB k (hgB j c' k hk)) hbut1.size
        have hcall1 := Try.mIntS _ u1 l1 (g i 1) n1 (k1 + 1) l1' k2 hd1 ho1 hr1 hl1 (by omega) (by omega) (fun k hk => hglt1 i 1 k hk)
        simp only [Nat.mul_one, Nat.add_zero] at hc0 hf0 hrow1 hbut1 hc1 hf1 hcall1 hglt1
        go_wp2_with (
          go_at_call 14
          refine hcall1.mono ?_
          rintro ex1 w1 ⟨rfl, hbc1, hrr1, nn1, hdd1, hoo1⟩
          have hrow2 := hrow1.call (fun k hk => hk.elim) hx1_1 (by omega) hc1 hbc1 hglt1 hrr1 hdd1 hoo1
          have hbut2 := hbut1.trans (hbc1.mono fun k hk => hgB i 1 k hk))
        go_roundg (N - i - 1)
        case measure => omega
        case rel => exact ⟨i + 1, _, k2, by omega, by omega, by go_num, by first | rfl | go_num, hmk2, hbut2, by rw [setD_at hyr, setD_at (set_at hyr)] at hrow2; simpa using hrow2⟩
      · obtain rfl : i = N := by omega
        go_wp2
        go_ret
        rw [← hN] at hmk
        have he : some (ys, k1) = some (xs', k') := hmk.symm.trans hm
        cases he
        obtain ⟨q1, q2⟩ := hrow0.forest hcap hBb hgB
        rw [hl] at q1 q2
        exact ⟨rfl, hbut0, q1, q2⟩
set_option maxHeartbeats 4000000 in
set_option maxRecDepth 1000000 in
theorem Try.mIntSS : ListC Try.prog 24 1 (mkRows stepInts) := by
  intro w v xs B n k xs' k' hd hf hr hm hk hk2 hB
  rcases Fo.rows hd hf hr with ⟨rfl, A, cap, rfl⟩ | ⟨b, cap, e, g, rfl, hle, hcap, hBb, hgB, hrow⟩
  · cases hm
    go_enter Try.func24, Try.ntmps24
    go_wp2
    go_loopg [1, 5] 0 (fun g s1 s5 wr => s1 = .int .i64 k ∧ s5 = .int .i64 0 ∧ wr = w)
    case atStart => exact ⟨rfl, rfl, rfl⟩
    case round =>
      obtain ⟨rfl, rfl, rfl⟩ := hrel
      go_wp2
      go_ret
      exact ⟨rfl, Ovi.But.refl _ _, hr, _, hd, hf⟩
  · have hcap' := hcap
    unfold maxLen at hcap'
    have hl := (mkRows_up stepInts_up hm).2
    generalize hN : xs.length = N at *
    go_enter Try.func24, Try.ntmps24
    go_wp2
    go_loopg [1, 5] N (fun gk s1 s5 wr => ∃ (i : Nat) (ys : Ovi.Rows) (k1 : Int), i ≤ N ∧ N - i ≤ gk ∧ s5 = .int .i64 i ∧ s1 = .int .i64 k1 ∧ mkN stepInts i xs k = some (ys, k1) ∧ Ovi.But B w wr ∧ RowG wr NT b cap e 1 ys g)
    case atStart => exact ⟨0, xs, k, by omega, by omega, rfl, rfl, rfl, Ovi.But.refl _ _, hrow⟩
    case round =>
      obtain ⟨i, ys, k1, hi, hg, rfl, rfl, hmk, hbut0, hrow0⟩ := hrel
      by_cases hlt : i < N
      · obtain ⟨r, r', k2, hyr, hst, hmk2, b1, b2, b3, _⟩ := mkN_next stepInts_up hm hmk (by omega)
        obtain ⟨l0, l0', rfl, hl0, rfl⟩ := stepInts_some hst
        have hx0_0 : cellD ys i 0 = some (.list 1 l0) := by simp [cellD, hyr]
        have hup0 := (mkRows_up stepInt_up hl0).1
        obtain ⟨u0, hc0, hf0, hr0, n0, hd0, ho0⟩ := hrow0.at hx0_0
        have hglt0 : ∀ j c' k, g j c' k → k < (wr).heap.size := fun j c' k hk => Nat.lt_of_lt_of_le (hB k (hgB j c' k hk)) hbut0.size
        have hcall0 := Try.mIntS _ u0 l0 (g i 0) n0 k1 l0' k2 hd0 ho0 hr0 hl0 (by omega) (by omega) (fun k hk => hglt0 i 0 k hk)
        simp only [Nat.mul_one, Nat.add_zero] at hc0 hf0 hcall0 hglt0
        go_wp2_with (
          go_at_call 14
          refine hcall0.mono ?_
          rintro ex0 w0 ⟨rfl, hbc0, hrr0, nn0, hdd0, hoo0⟩
          have hrow1 := hrow0.call (fun k hk => hk.elim) hx0_0 (by omega) hc0 hbc0 hglt0 hrr0 hdd0 hoo0
          have hbut1 := hbut0.trans (hbc0.mono fun k hk => hgB i 0 k hk))
        go_roundg (N - i - 1)
        case measure => omega
        case rel => exact ⟨i + 1, _, k2, by omega, by omega, by go_num, by first | rfl | go_num, hmk2, hbut1, by rw [setD_at hyr] at hrow1; simpa using hrow1⟩
      · obtain rfl : i = N := by omega
        go_wp2
        go_ret
        rw [← hN] at hmk
        have he : some (ys, k1) = some (xs', k') := hmk.symm.trans hm
        cases he
        obtain ⟨q1, q2⟩ := hrow0.forest hcap hBb hgB
        rw [hl] at q1 q2
        exact ⟨rfl, hbut0, q1, q2⟩
set_option maxHeartbeats 4000000 in
set_option maxRecDepth 1000000 in
theorem Try.mTermS : ListC Try.prog 49 3 (mkRows stepTerm) := by
  intro w v xs B n k xs' k' hd hf hr hm hk hk2 hB
  rcases Fo.rows hd hf hr with ⟨rfl, A, cap, rfl⟩ | ⟨b, cap, e, g, rfl, hle, hcap, hBb, hgB, hrow⟩
  · cases hm
    go_enter Try.func49, Try.ntmps49
    go_wp2
    go_loopg [1, 5] 0 (fun g s1 s5 wr => s1 = .int .i64 k ∧ s5 = .int .i64 0 ∧ wr = w)
    case atStart => exact ⟨rfl, rfl, rfl⟩
    case round =>
      obtain ⟨rfl, rfl, rfl⟩ := hrel
      go_wp2
      go_ret
      exact ⟨rfl, Ovi.But.refl _ _, hr, _, hd, hf⟩
  · have hcap' := hcap
    unfold maxLen at hcap'
    have hl := (mkRows_up stepTerm_up hm).2
    generalize hN : xs.length = N at *
    go_enter Try.func49, Try.ntmps49
    go_wp2
    go_loopg [1, 5] N (fun gk s1 s5 wr => ∃ (i : Nat) (ys : Ovi.Rows) (k1 : Int), i ≤ N ∧ N - i ≤ gk ∧ s5 = .int .i64 i ∧ s1 = .int .i64 k1 ∧ mkN stepTerm i xs k = some (ys, k1) ∧ Ovi.But B w wr ∧ RowG wr NT b cap e 3 ys g)
    case atStart => exact ⟨0, xs, k, by omega, by omega, rfl, rfl, rfl, Ovi.But.refl _ _, hrow⟩
    case round =>
      obtain ⟨i, ys, k1, hi, hg, rfl, rfl, hmk, hbut0, hrow0⟩ := hrel
      by_cases hlt : i < N
      · obtain ⟨r, r', k2, hyr, hst, hmk2, b1, b2, b3, _⟩ := mkN_next stepTerm_up hm hmk (by omega)
        obtain ⟨z0, z1, l2, l2', rfl, hl2, rfl⟩ := stepTerm_some hst
        have hx0_0 : cellD ys i 0 = some (.int .i64 z0) := by simp [cellD, hyr]
        have hx1_0 : cellD ys i 1 = some (.int .i64 z1) := by simp [cellD, hyr]
        have hx2_0 : cellD ys i 2 = some (.list 1 l2) := by simp [cellD, hyr]
        have hup2 := (mkRows_up stepInt_up hl2).1
        obtain ⟨u0, hc0, hf0, _⟩ := hrow0.at hx0_0
        have hrow1 := hrow0.set (fun h => h) hx0_0 (v := .int .i64 k1) (d := .int .i64 k1) rfl (.int _ _)
        have hbut1 : Ovi.But B w ((wr).setCell ⟨b, i * 3 + 0, none⟩ (.int .i64 k1)) := hbut0.trans (Ovi.But.setCell hBb)
        have hx1_1 := setD_other (d := .int .i64 k1) hx1_0 (by decide : 1 ≠ 0)
        have hx2_1 := setD_other (d := .int .i64 k1) hx2_0 (by decide : 2 ≠ 0)
        obtain ⟨u1, hc1, hf1, _⟩ := hrow1.at hx1_1
        have hrow2 := hrow1.set (fun h => h) hx1_1 (v := .int .i64 (k1 + 1)) (d := .int .i64 (k1 + 1)) rfl (.int _ _)
        have hbut2 : Ovi.But B w (((wr).setCell ⟨b, i * 3 + 0, none⟩ (.int .i64 k1)).setCell ⟨b, i * 3 + 1, none⟩ (.int .i64 (k1 + 1))) := hbut1.trans (Ovi.But.setCell hBb)
        have hx2_2 := setD_other (d := .int .i64 (k1 + 1)) hx2_1 (by decide : 2 ≠ 1)
        obtain ⟨u2, hc2, hf2, hr2, n2, hd2, ho2⟩ := hrow2.at hx2_2
        have hglt2 : ∀ j c' k, g j c' k → k < (((wr).setCell ⟨b, i * 3 + 0, none⟩ (.int .i64 k1)).setCell ⟨b, i * 3 + 1, none⟩ (.int .i64 (k1 + 1))).heap.size := fun j c' k hk => Nat.lt_of_lt_of_le (hB k (hgB j c' k hk)) hbut2.size
        have hcall2 := Try.mIntS _ u2 l2 (g i 2) n2 (k1 + 1 + 1) l2' k2 hd2 ho2 hr2 hl2 (by omega) (by omega) (fun k hk => hglt2 i 2 k hk)
        simp only [Nat.mul_one, Nat.add_zero] at hc0 hf0 hrow1 hbut1 hc1 hf1 hrow2 hbut2 hc2 hf2 hcall2 hglt2
        go_wp2_with (
          go_at_call 14
          refine hcall2.mono ?_
          rintro ex2 w2 ⟨rfl, hbc2, hrr2, nn2, hdd2, hoo2⟩
          have hrow3 := hrow2.call (fun k hk => hk.elim) hx2_2 (by omega) hc2 hbc2 hglt2 hrr2 hdd2 hoo2
          have hbut3 := hbut2.trans (hbc2.mono fun k hk => hgB i 2 k hk))
        go_roundg (N - i - 1)
        case measure => omega
        case rel => exact ⟨i + 1, _, k2, by omega, by omega, by go_num, by first | rfl | go_num, hmk2, hbut3, by rw [setD_at hyr, setD_at (set_at hyr), setD_at (set_at (set_at hyr))] at hrow3; simpa using hrow3⟩
      · obtain rfl : i = N := by omega
        go_wp2
        go_ret
        rw [← hN] at hmk
        have he : some (ys, k1) = some (xs', k') := hmk.symm.trans hm
        cases he
        obtain ⟨q1, q2⟩ := hrow0.forest hcap hBb hgB
        rw [hl] at q1 q2
        exact ⟨rfl, hbut0, q1, q2⟩
set_option maxHeartbeats 4000000 in
set_option maxRecDepth 1000000 in
theorem Try.mRelationS {mt : Int → List UInt8} (ht : ∀ (w : World) (k : Int), 0 ≤ k → k ≤ 4611686018427387904 → Calls Try.prog 79 #[.int .i64 k] w fun e w' => e = .returned (.string ⟨(mt k).toArray⟩) ∧ Below w.heap.size w w') : ListC Try.prog 41 3 (mkRows (stepRel mt)) := by
  intro w v xs B n k xs' k' hd hf hr hm hk hk2 hB
  rcases Fo.rows hd hf hr with ⟨rfl, A, cap, rfl⟩ | ⟨b, cap, e, g, rfl, hle, hcap, hBb, hgB, hrow⟩
  · cases hm
    go_enter Try.func41, Try.ntmps41
    go_wp2
    go_loopg [1, 5] 0 (fun g s1 s5 wr => s1 = .int .i64 k ∧ s5 = .int .i64 0 ∧ wr = w)
    case atStart => exact ⟨rfl, rfl, rfl⟩
    case round =>
      obtain ⟨rfl, rfl, rfl⟩ := hrel
      go_wp2
      go_ret
      exact ⟨rfl, Ovi.But.refl _ _, hr, _, hd, hf⟩
  · have hcap' := hcap
    unfold maxLen at hcap'
    have hl := (mkRows_up stepRel_up hm).2
    generalize hN : xs.length = N at *
    go_enter Try.func41, Try.ntmps41
    go_wp2
    go_loopg [1, 5] N (fun gk s1 s5 wr => ∃ (i : Nat) (ys : Ovi.Rows) (k1 : Int), i ≤ N ∧ N - i ≤ gk ∧ s5 = .int .i64 i ∧ s1 = .int .i64 k1 ∧ mkN (stepRel mt) i xs k = some (ys, k1) ∧ Ovi.But B w wr ∧ RowG wr NT b cap e 3 ys g)
    case atStart => exact ⟨0, xs, k, by omega, by omega, rfl, rfl, rfl, Ovi.But.refl _ _, hrow⟩
    case round =>
      obtain ⟨i, ys, k1, hi, hg, rfl, rfl, hmk, hbut0, hrow0⟩ := hrel
      by_cases hlt : i < N
      · obtain ⟨r, r', k2, hyr, hst, hmk2, b1, b2, b3, _⟩ := mkN_next stepRel_up hm hmk (by omega)
        obtain ⟨s0, z1, t2, rfl, rfl, rfl⟩ := stepRel_some hst
        have hx0_0 : cellD ys i 0 = some (.str s0) := by simp [cellD, hyr]
        have hx1_0 : cellD ys i 1 = some (.int .i64 z1) := by simp [cellD, hyr]
        have hx2_0 : cellD ys i 2 = some (.bool t2) := by simp [cellD, hyr]
        have ht0 := ht (wr) k1 (by omega) (by omega)
        go_wp2_with (
          go_at_call 79
          refine ht0.mono ?_
          rintro ex0 w0 ⟨rfl, hbel0⟩
          have hbut1 := hbut0.trans (Ovi.But.of_below hbel0)
          have hrow1 := hrow0.world (w' := w0) (fun k hk => hk.elim) (hbel0.block _ hrow0.lt) (fun j c' k hk => hbel0.block _ (Nat.lt_of_lt_of_le (hB k (hgB j c' k hk)) hbut0.size))
          obtain ⟨u0, hc0, hf0, _⟩ := hrow1.at hx0_0
          have hrow2 := hrow1.set (fun h => h) hx0_0 (v := .string ⟨(mt k1).toArray⟩) (d := .str (mt k1)) rfl (by have := RD.str (w := w0) (S := NT) (T := NT) ⟨(mt k1).toArray⟩; simpa using this)
          have hbut2 : Ovi.But B w ((w0).setCell ⟨b, i * 3 + 0, none⟩ (.string ⟨(mt k1).toArray⟩)) := hbut1.trans (Ovi.But.setCell hBb)
          have hx1_1 := setD_other (d := .str (mt k1)) hx1_0 (by decide : 1 ≠ 0)
          have hx2_1 := setD_other (d := .str (mt k1)) hx2_0 (by decide : 2 ≠ 0)
          obtain ⟨u1, hc1, hf1, _⟩ := hrow2.at hx1_1
          have hrow3 := hrow2.set (fun h => h) hx1_1 (v := .int .i64 (k1 + 1)) (d := .int .i64 (k1 + 1)) rfl (.int _ _)
          have hbut3 : Ovi.But B w (((w0).setCell ⟨b, i * 3 + 0, none⟩ (.string ⟨(mt k1).toArray⟩)).setCell ⟨b, i * 3 + 1, none⟩ (.int .i64 (k1 + 1))) := hbut2.trans (Ovi.But.setCell hBb)
          have hx2_2 := setD_other (d := .int .i64 (k1 + 1)) hx2_1 (by decide : 2 ≠ 1)
          obtain ⟨u2, hc2, hf2, _⟩ := hrow3.at hx2_2
          have hrow4 := hrow3.set (fun h => h) hx2_2 (v := .bool ((k1 + 1 + 1) % 3 == 0)) (d := .bool ((k1 + 1 + 1) % 3 == 0)) rfl (.bool _)
          have hbut4 : Ovi.But B w ((((w0).setCell ⟨b, i * 3 + 0, none⟩ (.string ⟨(mt k1).toArray⟩)).setCell ⟨b, i * 3 + 1, none⟩ (.int .i64 (k1 + 1))).setCell ⟨b, i * 3 + 2, none⟩ (.bool ((k1 + 1 + 1) % 3 == 0))) := hbut3.trans (Ovi.But.setCell hBb)
          simp only [Nat.mul_one, Nat.add_zero] at hc0 hf0 hrow2 hbut2 hc1 hf1 hrow3 hbut3 hc2 hf2 hrow4 hbut4)
        go_roundg (N - i - 1)
        case measure => omega
        case rel => exact ⟨i + 1, _, (k1 + 1 + 1 + 1), by omega, by omega, by go_num, by first | rfl | go_num, hmk2, hbut4, by rw [setD_at hyr, setD_at (set_at hyr), setD_at (set_at (set_at hyr))] at hrow4; simpa using hrow4⟩
      · obtain rfl : i = N := by omega
        go_wp2
        go_ret
        rw [← hN] at hmk
        have he : some (ys, k1) = some (xs', k') := hmk.symm.trans hm
        cases he
        obtain ⟨q1, q2⟩ := hrow0.forest hcap hBb hgB
        rw [hl] at q1 q2
        exact ⟨rfl, hbut0, q1, q2⟩
end Go.Proofs

/-! Wb -/
namespace Go.Proofs
open Go.Shelf Go.RowKit Go.Lib Ovi
set_option maxHeartbeats 4000000 in
set_option maxRecDepth 1000000 in
theorem Try.mInstance {mt : Int → List UInt8} (ht : ∀ (w : World) (k : Int), 0 ≤ k → k ≤ 4611686018427387904 → Calls Try.prog 79 #[.int .i64 k] w fun e w' => e = .returned (.string ⟨(mt k).toArray⟩) ∧ Below w.heap.size w w') : AggC Try.prog 13 (stepInst mt) := by
  intro w us ds G k ds' k' hsz hcells hdis hlt hm hk hk2
  obtain ⟨x0, x1, y0, k1, y1, rfl, h1, h2, rfl⟩ := stepInst_some hm
  have up1 := (mkRows_up stepRel_up h1).1
  have up2 := (mkRows_up stepFact_up h2).1
  obtain ⟨u0, hu0, c0⟩ := hcells 0 _ rfl
  obtain ⟨u1, hu1, c1⟩ := hcells 1 _ rfl
  have hus : us = #[u0, u1] := by
    apply Array.ext_getElem?
    intro i
    match i with
    | 0 => exact hu0
    | 1 => exact hu1
    | i + 2 => rw [Array.getElem?_eq_none (by rw [hsz]; simp), Array.getElem?_eq_none (by simp)]
  subst hus
  have hb0 : Ovi.But (fun _ => False) w (w.alloc (.cells #[u0, u1] 31 (0, 0))) := Ovi.But.of_below ((Below.refl _ w).alloc (Nat.le_refl _) _)
  have hnew : ∀ c k, G c k → k ≠ w.heap.size := fun c k hk he => by have := hlt c k hk; omega
  have c0 : CellF (w.alloc (.cells #[u0, u1] 31 (0, 0))) (G 0) u0 _ := CellF.but c0 hb0 (hlt 0) (fun _ _ h => h)
  have c1 : CellF (w.alloc (.cells #[u0, u1] 31 (0, 0))) (G 1) u1 _ := CellF.but c1 hb0 (hlt 1) (fun _ _ h => h)
  have hlt1 : ∀ c b, G c b → b < (w.alloc (.cells #[u0, u1] 31 (0, 0))).heap.size := fun c b hb => Nat.lt_of_lt_of_le (hlt c b hb) hb0.size
  have l0 : (w.alloc (.cells #[u0, u1] 31 (0, 0))).cell? ⟨w.heap.size, 0, none⟩ = some u0 := alloc_cell w _ _ rfl
  have l1 : (w.alloc (.cells #[u0, u1] 31 (0, 0))).cell? ⟨w.heap.size, 1, none⟩ = some u1 := alloc_cell w _ _ rfl
  obtain ⟨r0, n0, d0, f0⟩ := c0
  have hcall0 := Try.mRelationS ht _ u0 x0 (G 0) n0 k y0 k1 d0 f0 r0 h1 hk (by omega) (hlt1 0)
  clear ht
  go_enter Try.func13, Try.ntmps13
  go_wp2_with (
    go_at_call 41
    refine hcall0.mono ?_
    rintro e1 w1 ⟨rfl, b1, r1, n1, d1, f1⟩
    have l1' := b1.cell (fun h => hnew _ _ h rfl) l1
    have c1' := c1.but b1 (hlt1 1) (fun k h h' => absurd (hdis _ _ _ h h') (by decide))
    obtain ⟨r2, n2, d2, f2⟩ := c1'
    have hlt2 : ∀ c b, G c b → b < w1.heap.size := fun c b hb => Nat.lt_of_lt_of_le (hlt1 c b hb) b1.size
    have hcall1 := Try.mFactS _ u1 x1 (G 1) n2 k1 y1 k' d2 f2 r2 h2 (by omega) hk2 (hlt2 1))
  refine hcall1.mono ?_
  rintro e2 w2 ⟨rfl, b2, r3, n3, d3, f3⟩
  go_wp2
  go_ret
  have c0'' := CellF.but (B := G 0) ⟨r1, n1, d1, f1⟩ b2 (hlt2 0) (fun k h h' => absurd (hdis _ _ _ h h') (by decide))
  refine ⟨rfl, ((hb0.mono fun _ h => h.elim).trans (b1.mono fun k h => ⟨0, h⟩)).trans (b2.mono fun k h => ⟨1, h⟩), fun c x hx => ?_⟩
  match c, hx with
  | 0, hx => cases hx; exact ⟨u0, rfl, c0''⟩
  | 1, hx => cases hx; exact ⟨u1, rfl, r3, n3, d3, f3⟩
  | c + 2, hx => simp at hx
set_option maxHeartbeats 4000000 in
set_option maxRecDepth 1000000 in
theorem Try.mState {mt : Int → List UInt8} (ht : ∀ (w : World) (k : Int), 0 ≤ k → k ≤ 4611686018427387904 → Calls Try.prog 79 #[.int .i64 k] w fun e w' => e = .returned (.string ⟨(mt k).toArray⟩) ∧ Below w.heap.size w w') : AggC Try.prog 19 (stepState mt) := by
  intro w us ds G k ds' k' hsz hcells hdis hlt hm hk hk2
  obtain ⟨x0, x1, x2, y0, y1, k1, y2, rfl, h1, h2, rfl⟩ := stepState_some hm
  have up1 := (stepInst_up _ _ _ _ h1).1
  have up2 := (mkRows_up stepTerm_up h2).1
  obtain ⟨u0, hu0, c0⟩ := hcells 0 _ rfl
  obtain ⟨u1, hu1, c1⟩ := hcells 1 _ rfl
  obtain ⟨u2, hu2, c2⟩ := hcells 2 _ rfl
  have hus : us = #[u0, u1, u2] := by
    apply Array.ext_getElem?
    intro i
    match i with
    | 0 => exact hu0
    | 1 => exact hu1
    | 2 => exact hu2
    | i + 3 => rw [Array.getElem?_eq_none (by rw [hsz]; simp), Array.getElem?_eq_none (by simp)]
  subst hus
  have hb0 : Ovi.But (fun _ => False) w (w.alloc (.cells #[u0, u1, u2] 43 (0, 0))) := Ovi.But.of_below ((Below.refl _ w).alloc (Nat.le_refl _) _)
  have hnew : ∀ c k, G c k → k ≠ w.heap.size := fun c k hk he => by have := hlt c k hk; omega
  have c0 : CellF (w.alloc (.cells #[u0, u1, u2] 43 (0, 0))) (G 0) u0 _ := CellF.but c0 hb0 (hlt 0) (fun _ _ h => h)
  have c1 : CellF (w.alloc (.cells #[u0, u1, u2] 43 (0, 0))) (G 1) u1 _ := CellF.but c1 hb0 (hlt 1) (fun _ _ h => h)
  have c2 : CellF (w.alloc (.cells #[u0, u1, u2] 43 (0, 0))) (G 2) u2 _ := CellF.but c2 hb0 (hlt 2) (fun _ _ h => h)
  have hlt1 : ∀ c b, G c b → b < (w.alloc (.cells #[u0, u1, u2] 43 (0, 0))).heap.size := fun c b hb => Nat.lt_of_lt_of_le (hlt c b hb) hb0.size
  have l0 : (w.alloc (.cells #[u0, u1, u2] 43 (0, 0))).cell? ⟨w.heap.size, 0, none⟩ = some u0 := alloc_cell w _ _ rfl
  have l1 : (w.alloc (.cells #[u0, u1, u2] 43 (0, 0))).cell? ⟨w.heap.size, 1, none⟩ = some u1 := alloc_cell w _ _ rfl
  have l2 : (w.alloc (.cells #[u0, u1, u2] 43 (0, 0))).cell? ⟨w.heap.size, 2, none⟩ = some u2 := alloc_cell w _ _ rfl
  have hcall0 := Try.mInstance ht (w.alloc (.cells #[u0, u1, u2] 43 (0, 0))) #[u0, u1] [x0, x1] (fun c k => c < 2 ∧ G c k) k [y0, y1] k1 rfl (fun c x hx => by
    match c, hx with
    | 0, hx => cases hx; exact ⟨u0, rfl, CellF.sub c0 fun k hk => ⟨by decide, hk⟩⟩
    | 1, hx => cases hx; exact ⟨u1, rfl, CellF.sub c1 fun k hk => ⟨by decide, hk⟩⟩
    | c + 2, hx => simp at hx) (fun c c' k h h' => hdis c c' k h.2 h'.2) (fun c b h => hlt1 c b h.2) h1 hk (by omega)
  clear ht
  go_enter Try.func19, Try.ntmps19
  go_wp2_with (
    go_at_call 13
    refine hcall0.mono ?_
    rintro e1 w1 ⟨rfl, b1, r1⟩
    have l2' := b1.cell (fun ⟨c, _, h⟩ => hnew _ _ h rfl) l2
    have c2' := c2.but b1 (hlt1 2) (fun k h ⟨c, hc, h'⟩ => by have := hdis _ _ _ h h'; omega)
    obtain ⟨r2, n2, d2, f2⟩ := c2'
    have hlt2 : ∀ c b, G c b → b < w1.heap.size := fun c b hb => Nat.lt_of_lt_of_le (hlt1 c b hb) b1.size
    have hcall1 := Try.mTermS _ u2 x2 (G 2) n2 k1 y2 k' d2 f2 r2 h2 (by omega) hk2 (hlt2 2))
  refine hcall1.mono ?_
  rintro e2 w2 ⟨rfl, b2, r3, n3, d3, f3⟩
  go_wp2
  go_ret
  refine ⟨rfl, ((hb0.mono fun _ h => h.elim).trans (b1.mono fun k ⟨c, _, h⟩ => ⟨c, h⟩)).trans (b2.mono fun k h => ⟨2, h⟩), fun c x hx => ?_⟩
  match c, hx with
  | 0, hx =>
    obtain ⟨q, hq, hc⟩ := r1 0 x hx
    cases hq
    exact ⟨u0, rfl, CellF.but (CellF.sub hc fun k hk => hk.2) b2 (hlt2 0) (fun k h h' => absurd (hdis _ _ _ h h') (by decide))⟩
  | 1, hx =>
    obtain ⟨q, hq, hc⟩ := r1 1 x hx
    cases hq
    exact ⟨u1, rfl, CellF.but (CellF.sub hc fun k hk => hk.2) b2 (hlt2 1) (fun k h h' => absurd (hdis _ _ _ h h') (by decide))⟩
  | 2, hx => cases hx; exact ⟨u2, rfl, r3, n3, d3, f3⟩
  | c + 3, hx => simp at hx
end Go.Proofs

/-! Mkf -/
namespace Ovi
open Go Go.RowKit
/-! ### The marks of an instance and of a Skolem state keep the shape -/
theorem cell_row {c : MCell} {sz : Nat} {xs : Rows} (ho : c.ok = true) (h : toD c = .list sz xs) : ∃ e, c = .row e sz xs := by
  cases c with
  | row e s x => simp only [toD, D.list.injEq] at h; obtain ⟨rfl, rfl⟩ := h; exact ⟨e, rfl⟩
  | any x => simp only [toD] at h; subst h; cases ho
theorem mkRows_len {step : Step1} {xs ys : Rows} {k k' : Int} (h : mkRows step xs k = some (ys, k')) : ys.length = xs.length := by
  obtain ⟨_, _, _, h, _⟩ := mkRows_chain h
  exact h
theorem likeInst {mt : Int → List UInt8} (cs : List MCell) (k : Int) (ds' : List D) (k' : Int) (ho : cs.all MCell.ok = true) (h : stepInst mt (cs.map toD) k = some (ds', k')) : LikeD cs ds' := by
  obtain ⟨x0, x1, y0, k1, y1, e, h1, h2, rfl⟩ := stepInst_some h
  have hl := congrArg List.length e
  simp only [List.length_map, List.length_cons, List.length_nil] at hl
  match cs, hl with
  | [c0, c1], _ =>
    simp only [List.map_cons, List.map_nil, List.cons.injEq, and_true] at e
    simp only [List.all_cons, List.all_nil, Bool.and_true, Bool.and_eq_true] at ho
    obtain ⟨e0, rfl⟩ := cell_row ho.1 e.1
    obtain ⟨e1, rfl⟩ := cell_row ho.2 e.2
    exact ⟨rfl, mkRows_len h1, rfl, mkRows_len h2, True.intro⟩
theorem likeState {mt : Int → List UInt8} (cs : List MCell) (k : Int) (ds' : List D) (k' : Int) (ho : cs.all MCell.ok = true) (h : stepState mt (cs.map toD) k = some (ds', k')) : LikeD cs ds' := by
  obtain ⟨x0, x1, x2, y0, y1, k1, y2, e, h1, h2, rfl⟩ := stepState_some h
  obtain ⟨z0, z1, w0, k2, w1, e', h3, h4, e2⟩ := stepInst_some h1
  simp only [List.cons.injEq, and_true] at e' e2
  obtain ⟨rfl, rfl⟩ := e'
  obtain ⟨rfl, rfl⟩ := e2
  have hl := congrArg List.length e
  simp only [List.length_map, List.length_cons, List.length_nil] at hl
  match cs, hl with
  | [c0, c1, c2], _ =>
    simp only [List.map_cons, List.map_nil, List.cons.injEq, and_true] at e
    simp only [List.all_cons, List.all_nil, Bool.and_true, Bool.and_eq_true] at ho
    obtain ⟨e0, rfl⟩ := cell_row ho.1 e.1
    obtain ⟨e1, rfl⟩ := cell_row ho.2.1 e.2.1
    obtain ⟨e2, rfl⟩ := cell_row ho.2.2 e.2.2
    exact ⟨rfl, mkRows_len h3, rfl, mkRows_len h4, rfl, mkRows_len h2, True.intro⟩
end Ovi

/-! PSh -/
namespace Go.Proofs
open Go.Shelf
def Try.lays189_ren : Go.Shelf.Ren := ⟨fun | 189 => 56 | 125 => 86 | 257 => 85 | 128 => 110 | 129 => 111 | 294 => 101 | 295 => 102 | 296 => 103 | 297 => 104 | 298 => 105 | 299 => 106 | 216 => 107 | 300 => 108 | 301 => 109 | 328 => 122 | 329 => 123 | 330 => 124 | 331 => 125 | 332 => 126 | 215 => 120 | 343 => 130 | n => n, fun | 28 => 26 | 3 => 3 | 46 => 105 | 0 => 0 | 51 => 121 | 53 => 123 | 4 => 4 | 183 => 114 | 182 => 113 | 131 => 88 | 5 => 5 | 9 => 9 | 218 => 129 | 222 => 133 | 228 => 137 | 229 => 138 | n => n, fun | n => n⟩
theorem Try.lays189 : Go.Proofs.Lays.n189 Try.prog Try.lays189_ren := {
  mixed := by kernel_rfl
  f125 := Try.func86.trans (congrArg some (by kernel_rfl))
  f128 := Try.func110.trans (congrArg some (by kernel_rfl))
  f129 := Try.func111.trans (congrArg some (by kernel_rfl))
  f189 := Try.func56.trans (congrArg some (by kernel_rfl))
  f215 := Try.func120.trans (congrArg some (by kernel_rfl))
  f216 := Try.func107.trans (congrArg some (by kernel_rfl))
  f257 := Try.func85.trans (congrArg some (by kernel_rfl))
  f294 := Try.func101.trans (congrArg some (by kernel_rfl))
  f295 := Try.func102.trans (congrArg some (by kernel_rfl))
  f296 := Try.func103.trans (congrArg some (by kernel_rfl))
  f297 := Try.func104.trans (congrArg some (by kernel_rfl))
  f298 := Try.func105.trans (congrArg some (by kernel_rfl))
  f299 := Try.func106.trans (congrArg some (by kernel_rfl))
  f300 := Try.func108.trans (congrArg some (by kernel_rfl))
  f301 := Try.func109.trans (congrArg some (by kernel_rfl))
  f328 := Try.func122.trans (congrArg some (by kernel_rfl))
  f329 := Try.func123.trans (congrArg some (by kernel_rfl))
  f330 := Try.func124.trans (congrArg some (by kernel_rfl))
  f331 := Try.func125.trans (congrArg some (by kernel_rfl))
  f332 := Try.func126.trans (congrArg some (by kernel_rfl))
  f343 := Try.func130.trans (congrArg some (by kernel_rfl))
  t0 := Try.underlying0
  a0 := Try.isAgg0
  z0 := Try.sizeOf0
  v0 := Try.zeroValue0
  t3 := Try.underlying3
  a3 := Try.isAgg3
  z3 := Try.sizeOf3
  v3 := Try.zeroValue3
  t4 := Try.underlying4
  a4 := Try.isAgg4
  z4 := Try.sizeOf4
  v4 := Try.zeroValue4
  t5 := Try.underlying5
  a5 := Try.isAgg5
  z5 := Try.sizeOf5
  v5 := Try.zeroValue5
  t9 := Try.underlying9
  a9 := Try.isAgg9
  z9 := Try.sizeOf9
  v9 := Try.zeroValue9
  t28 := Try.underlying26
  a28 := Try.isAgg26
  z28 := Try.sizeOf26
  v28 := Try.zeroValue26
  t46 := Try.underlying105
  a46 := Try.isAgg105
  z46 := Try.sizeOf105
  v46 := Try.zeroValue105
  t51 := Try.underlying121
  a51 := Try.isAgg121
  z51 := Try.sizeOf121
  v51 := Try.zeroValue121
  t53 := Try.underlying123
  a53 := Try.isAgg123
  z53 := Try.sizeOf123
  v53 := Try.zeroValue123
  t131 := Try.underlying88
  a131 := Try.isAgg88
  z131 := Try.sizeOf88
  v131 := Try.zeroValue88
  t182 := Try.underlying113
  a182 := Try.isAgg113
  z182 := Try.sizeOf113
  v182 := Try.zeroValue113
  t183 := Try.underlying114
  a183 := Try.isAgg114
  z183 := Try.sizeOf114
  v183 := Try.zeroValue114
  t218 := Try.underlying129
  a218 := Try.isAgg129
  z218 := Try.sizeOf129
  v218 := Try.zeroValue129
  t222 := Try.underlying133
  a222 := Try.isAgg133
  z222 := Try.sizeOf133
  v222 := Try.zeroValue133
  t228 := Try.underlying137
  a228 := Try.isAgg137
  z228 := Try.sizeOf137
  v228 := Try.zeroValue137
  t229 := Try.underlying138
  a229 := Try.isAgg138
  z229 := Try.sizeOf138
  v229 := Try.zeroValue138 }
def Try.lays122_ren : Go.Shelf.Ren := ⟨fun | 122 => 88 | 215 => 120 | n => n, fun | 3 => 3 | 4 => 4 | n => n, fun | n => n⟩
theorem Try.lays122 : Go.Proofs.Lays.n122 Try.prog Try.lays122_ren := {
  mixed := by kernel_rfl
  f122 := Try.func88.trans (congrArg some (by kernel_rfl))
  f215 := Try.func120.trans (congrArg some (by kernel_rfl))
  t3 := Try.underlying3
  a3 := Try.isAgg3
  z3 := Try.sizeOf3
  v3 := Try.zeroValue3
  t4 := Try.underlying4
  a4 := Try.isAgg4
  z4 := Try.sizeOf4
  v4 := Try.zeroValue4 }
def Try.laysNm215_ren : Go.Shelf.Ren := ⟨fun | 15 => 121 | n => n, fun | 22 => 26 | 3 => 3 | 4 => 4 | n => n, fun | n => n⟩
theorem Try.laysNm215 : Go.Proofs.Lays2.n15 Try.prog Try.laysNm215_ren := {
  mixed := by kernel_rfl
  f15 := Try.func121.trans (congrArg some (by kernel_rfl))
  t3 := Try.underlying3
  a3 := Try.isAgg3
  z3 := Try.sizeOf3
  v3 := Try.zeroValue3
  t4 := Try.underlying4
  a4 := Try.isAgg4
  z4 := Try.sizeOf4
  v4 := Try.zeroValue4
  t22 := Try.underlying26
  a22 := Try.isAgg26
  z22 := Try.sizeOf26
  v22 := Try.zeroValue26
  i3 := by kernel_rfl }
def Try.laysNm220_ren : Go.Shelf.Ren := ⟨fun | 20 => 57 | n => n, fun | 22 => 26 | 3 => 3 | 4 => 4 | 0 => 0 | n => n, fun | n => n⟩
theorem Try.laysNm220 : Go.Proofs.Lays2.n20 Try.prog Try.laysNm220_ren := {
  mixed := by kernel_rfl
  f20 := Try.func57.trans (congrArg some (by kernel_rfl))
  t0 := Try.underlying0
  a0 := Try.isAgg0
  z0 := Try.sizeOf0
  v0 := Try.zeroValue0
  t3 := Try.underlying3
  a3 := Try.isAgg3
  z3 := Try.sizeOf3
  v3 := Try.zeroValue3
  t4 := Try.underlying4
  a4 := Try.isAgg4
  z4 := Try.sizeOf4
  v4 := Try.zeroValue4
  t22 := Try.underlying26
  a22 := Try.isAgg26
  z22 := Try.sizeOf26
  v22 := Try.zeroValue26
  i3 := by kernel_rfl }
def Try.laysSlE041_f73_ren : Go.Shelf.Ren := ⟨fun | 41 => 73 | n => n, fun | 22 => 28 | 23 => 86 | 4 => 4 | n => n, fun | n => n⟩
theorem Try.laysSlE041_f73 : Go.Proofs.SlLaysE0.n41 Try.prog Try.laysSlE041_f73_ren := {
  mixed := by kernel_rfl
  f41 := ⟨Try.f73.name, by decide, Try.func73.trans (congrArg some (by kernel_rfl))⟩
  t4 := Try.underlying4
  a4 := Try.isAgg4
  z4 := Try.sizeOf4
  v4 := Try.zeroValue4
  t22 := Try.underlying28
  a22 := Try.isAgg28
  z22 := Try.sizeOf28
  v22 := Try.zeroValue28 }
def Try.laysSlF6_f58_ren : Go.Shelf.Ren := ⟨fun | 6 => 58 | 15 => 86 | 14 => 87 | 28 => 110 | 29 => 111 | 20 => 112 | 21 => 113 | 22 => 114 | 23 => 115 | 24 => 116 | 25 => 117 | 26 => 118 | 27 => 119 | 46 => 127 | 47 => 123 | 48 => 124 | 49 => 128 | 50 => 129 | 57 => 131 | n => n, fun | 22 => 49 | 24 => 26 | 25 => 78 | 3 => 3 | 39 => 105 | 0 => 0 | 53 => 121 | 55 => 123 | 4 => 4 | 46 => 114 | 45 => 113 | 50 => 88 | 5 => 5 | 9 => 9 | 66 => 129 | 70 => 133 | 76 => 137 | 77 => 138 | n => n, fun | n => n⟩
theorem Try.laysSlF6_f58 : Go.Proofs.SlLaysF.n6 Try.prog Try.laysSlF6_f58_ren := {
  mixed := by kernel_rfl
  f6 := ⟨Try.f58.name, by decide, Try.func58.trans (congrArg some (by kernel_rfl))⟩
  f14 := ⟨Try.f87.name, by decide, Try.func87.trans (congrArg some (by kernel_rfl))⟩
  f15 := Try.func86.trans (congrArg some (by kernel_rfl))
  f20 := ⟨Try.f112.name, by decide, Try.func112.trans (congrArg some (by kernel_rfl))⟩
  f21 := ⟨Try.f113.name, by decide, Try.func113.trans (congrArg some (by kernel_rfl))⟩
  f22 := ⟨Try.f114.name, by decide, Try.func114.trans (congrArg some (by kernel_rfl))⟩
  f23 := ⟨Try.f115.name, by decide, Try.func115.trans (congrArg some (by kernel_rfl))⟩
  f24 := ⟨Try.f116.name, by decide, Try.func116.trans (congrArg some (by kernel_rfl))⟩
  f25 := ⟨Try.f117.name, by decide, Try.func117.trans (congrArg some (by kernel_rfl))⟩
  f26 := ⟨Try.f118.name, by decide, Try.func118.trans (congrArg some (by kernel_rfl))⟩
  f27 := ⟨Try.f119.name, by decide, Try.func119.trans (congrArg some (by kernel_rfl))⟩
  f28 := Try.func110.trans (congrArg some (by kernel_rfl))
  f29 := Try.func111.trans (congrArg some (by kernel_rfl))
  f46 := ⟨Try.f127.name, by decide, Try.func127.trans (congrArg some (by kernel_rfl))⟩
  f47 := Try.func123.trans (congrArg some (by kernel_rfl))
  f48 := Try.func124.trans (congrArg some (by kernel_rfl))
  f49 := ⟨Try.f128.name, by decide, Try.func128.trans (congrArg some (by kernel_rfl))⟩
  f50 := ⟨Try.f129.name, by decide, Try.func129.trans (congrArg some (by kernel_rfl))⟩
  f57 := ⟨Try.f131.name, by decide, Try.func131.trans (congrArg some (by kernel_rfl))⟩
  t0 := Try.underlying0
  a0 := Try.isAgg0
  z0 := Try.sizeOf0
  v0 := Try.zeroValue0
  t3 := Try.underlying3
  a3 := Try.isAgg3
  z3 := Try.sizeOf3
  v3 := Try.zeroValue3
  t4 := Try.underlying4
  a4 := Try.isAgg4
  z4 := Try.sizeOf4
  v4 := Try.zeroValue4
  t5 := Try.underlying5
  a5 := Try.isAgg5
  z5 := Try.sizeOf5
  v5 := Try.zeroValue5
  t9 := Try.underlying9
  a9 := Try.isAgg9
  z9 := Try.sizeOf9
  v9 := Try.zeroValue9
  t22 := Try.underlying49
  a22 := Try.isAgg49
  z22 := Try.sizeOf49
  v22 := Try.zeroValue49
  a24 := Try.isAgg26
  z24 := Try.sizeOf26
  t25 := Try.underlying78
  a25 := Try.isAgg78
  z25 := Try.sizeOf78
  v25 := Try.zeroValue78
  t39 := Try.underlying105
  a39 := Try.isAgg105
  z39 := Try.sizeOf105
  v39 := Try.zeroValue105
  t45 := Try.underlying113
  a45 := Try.isAgg113
  z45 := Try.sizeOf113
  v45 := Try.zeroValue113
  t46 := Try.underlying114
  a46 := Try.isAgg114
  z46 := Try.sizeOf114
  v46 := Try.zeroValue114
  t50 := Try.underlying88
  a50 := Try.isAgg88
  z50 := Try.sizeOf88
  v50 := Try.zeroValue88
  t53 := Try.underlying121
  a53 := Try.isAgg121
  z53 := Try.sizeOf121
  v53 := Try.zeroValue121
  t55 := Try.underlying123
  a55 := Try.isAgg123
  z55 := Try.sizeOf123
  v55 := Try.zeroValue123
  t66 := Try.underlying129
  a66 := Try.isAgg129
  z66 := Try.sizeOf129
  v66 := Try.zeroValue129
  t70 := Try.underlying133
  a70 := Try.isAgg133
  z70 := Try.sizeOf133
  v70 := Try.zeroValue133
  t76 := Try.underlying137
  a76 := Try.isAgg137
  z76 := Try.sizeOf137
  v76 := Try.zeroValue137
  t77 := Try.underlying138
  a77 := Try.isAgg138
  z77 := Try.sizeOf138
  v77 := Try.zeroValue138 }
end Go.Proofs

/-! Srw -/
namespace Ovi
open Go Go.Proofs Go.RowKit Go.Sort Go.Lib Go.Shelf
/-- the shelf's law pays it, the comparison's contract given -/
theorem sortF_run {P : Program} {ρ : Ren} (L : SlLaysF.n6 P ρ) {g : FuncId} (eg : ∀ args w, (callFunc g args).run P w = .ok (.enter g args) w) (hC : CmpC P g) (w : World) (S : Nat → Prop) (blk cap : Nat) (d : Array (HdL w S)) (hS : ∀ k, S k → k < w.heap.size) (hn : ¬ S blk) (hH : Holds encH w blk 0 d) (hb : blk < w.heap.size) (hsz : d.size < 4611686018427387904) :
    Calls P (ρ.f 6) #[.slice (some ⟨blk, 0, none⟩) d.size cap, .func (.func g) #[] #[]] w fun e w' => e = .returned (.tuple #[]) ∧ ∃ (d' : Array (HdL w S)) (n : Nat) (os : Array Obj), PermIn 0 d.size d d' ∧ SortedIn (ltOf cmpH) 0 d.size d' ∧ w' = sortWorld encH w blk 0 n d' os :=
  Any.slices_SortFunc L encH (fun x => by
    obtain ⟨v, l, ⟨A, c, rfl, _⟩, _⟩ := x
    rfl) cmpH swoH g #[] blk 0 cap d w eg (fun m os dk hs x y => by
    have := hC (sortWorld encH w blk 0 m dk os) S (encH x) (encH y) (lstH x) (lstH y) (x.h.stab (stabS dk hS hn)) (y.h.stab (stabS dk hS hn)) x.b y.b
    exact this) hH hb hsz
end Ovi

/-! PCm -/
namespace Go.Proofs
open Go.Shelf Go.RowKit Go.Lib Go.Sort Ovi
set_option maxHeartbeats 2000000 in
set_option maxRecDepth 1000000 in
theorem Try.cmp_both (b o c b' o' c' : Nat) (xs ys : List Int) (w : World) (hl : xs.length < 4611686018427387904) (hl' : ys.length < 4611686018427387904)
    (hx : ∀ (i : Nat) z, xs[i]? = some z → w.cell? ⟨b, o + i, none⟩ = some (.int .i64 z)) (hy : ∀ (i : Nat) z, ys[i]? = some z → w.cell? ⟨b', o' + i, none⟩ = some (.int .i64 z)) :
    Calls Try.prog 59 #[.slice (some ⟨b, o, none⟩) xs.length c, .slice (some ⟨b', o', none⟩) ys.length c'] w fun e w' => e = .returned (.int .i64 (cmpL xs ys)) ∧ w' = w := by
  go_enter Try.func59, Try.ntmps59
  go_wp2
  go_loop [11] (fun i => ∃ k : Nat, k ≤ xs.length ∧ k ≤ ys.length ∧ i = .int .i64 k ∧ Hid (cmpL xs ys = cmpL (xs.drop k) (ys.drop k))) (fun i => xs.length - (intOf i).toNat)
  case atStart => exact ⟨0, Nat.zero_le _, Nat.zero_le _, rfl, rfl⟩
  case round =>
    obtain ⟨k, hk, hk', rfl, H⟩ := hrel
    by_cases hlt : k < xs.length
    · by_cases hlt' : k < ys.length
      · have g1 := hx k _ (List.getElem?_eq_getElem hlt)
        have g2 := hy k _ (List.getElem?_eq_getElem hlt')
        have D : Hid (cmpL (xs.drop k) (ys.drop k) = if xs[k] < ys[k] then -1 else if xs[k] > ys[k] then 1 else cmpL (xs.drop (k + 1)) (ys.drop (k + 1))) := by
          show _ = _
          rw [List.drop_eq_getElem_cons hlt, List.drop_eq_getElem_cons hlt']
          rfl
        clear hx hy
        have hcon := Any.cmp_Compare_int Try.lays122 xs[k] ys[k] w
        change Calls Try.prog 88 _ _ _ at hcon
        have E : Hid (Lib.compareInt xs[k] ys[k] = if xs[k] < ys[k] then -1 else if xs[k] > ys[k] then 1 else 0) := by
          show _ = _
          unfold Lib.compareInt
          rfl
        generalize hr : Lib.compareInt xs[k] ys[k] = r at hcon E
        clear hr
        generalize xs[k] = x at *
        generalize ys[k] = y at *
        by_cases hr0 : r = 0
        · subst hr0
          go_wp2_with (go_at_call 88; refine hcon.mono ?_; rintro e w' ⟨rfl, rfl⟩)
          go_round
          case rel =>
            refine ⟨k + 1, by omega, by omega, by go_num, ?_⟩
            show _ = _
            have h1 := E.out
            have h2 := D.out
            rw [H.out, h2]
            by_cases q1 : x < y
            · rw [if_pos q1] at h1; omega
            · rw [if_neg q1] at h1 ⊢
              by_cases q2 : x > y
              · rw [if_pos q2] at h1; omega
              · rw [if_neg q2]
          case measure => simp [intOf]; omega
        · go_wp2_with (go_at_call 88; refine hcon.mono ?_; rintro e w' ⟨rfl, rfl⟩)
          go_ret
          refine ⟨?_, rfl⟩
          show Ending.returned (Value.int .i64 r) = Ending.returned (Value.int .i64 (cmpL xs ys))
          have h1 := E.out
          have h2 := D.out
          rw [H.out, h2]
          by_cases q1 : x < y
          · rw [if_pos q1] at h1 ⊢; rw [h1]
          · rw [if_neg q1] at h1 ⊢
            by_cases q2 : x > y
            · rw [if_pos q2] at h1 ⊢; rw [h1]
            · rw [if_neg q2] at h1; exact absurd h1 hr0
      · obtain rfl : k = ys.length := by omega
        have g1 := hx ys.length _ (List.getElem?_eq_getElem hlt)
        have D : Hid (cmpL xs ys = 1) := by
          show _ = _
          rw [H.out, List.drop_length, List.drop_eq_getElem_cons hlt]
          rfl
        clear hx hy H
        generalize xs[ys.length] = x at g1
        go_wp2
        go_ret
        refine ⟨?_, rfl⟩
        show Ending.returned (Value.int .i64 1) = Ending.returned (Value.int .i64 (cmpL xs ys))
        rw [D.out]
    · clear hx hy
      obtain rfl : k = xs.length := by omega
      by_cases hlen : xs.length < ys.length
      · go_wp2
        go_ret
        refine ⟨?_, rfl⟩
        rw [H.out, List.drop_length, List.drop_eq_getElem_cons hlen]
        rfl
      · go_wp2
        go_ret
        refine ⟨?_, rfl⟩
        rw [H.out, List.drop_length, List.drop_of_length_le (by omega)]
        rfl
set_option maxHeartbeats 2000000 in
set_option maxRecDepth 1000000 in
theorem Try.cmp_nil (A A' : Option Addr) (c n c' : Nat) (w : World) :
    Calls Try.prog 59 #[.slice A 0 c, .slice A' n c'] w fun e w' => e = .returned (.int .i64 (if 0 < n then -1 else 0)) ∧ w' = w := by
  by_cases hn : 0 < n
  · rw [if_pos hn]
    go_enter Try.func59, Try.ntmps59
    go_wp2
    go_loop [11] (fun i => i = .int .i64 0) (fun _ => 0)
    case atStart => rfl
    case round =>
      subst hrel
      go_wp2
      go_ret
      exact ⟨rfl, rfl⟩
  · rw [if_neg hn]
    obtain rfl : n = 0 := by omega
    go_enter Try.func59, Try.ntmps59
    go_wp2
    go_loop [11] (fun i => i = .int .i64 0) (fun _ => 0)
    case atStart => rfl
    case round =>
      subst hrel
      go_wp2
      go_ret
      exact ⟨rfl, rfl⟩
set_option maxHeartbeats 2000000 in
set_option maxRecDepth 1000000 in
theorem Try.cmp_one (b o c n c' : Nat) (A' : Option Addr) (x : Int) (w : World) (hn : 0 < n) (hx : w.cell? ⟨b, o, none⟩ = some (.int .i64 x)) :
    Calls Try.prog 59 #[.slice (some ⟨b, o, none⟩) n c, .slice A' 0 c'] w fun e w' => e = .returned (.int .i64 1) ∧ w' = w := by
  go_enter Try.func59, Try.ntmps59
  go_wp2
  go_loop [11] (fun i => i = .int .i64 0) (fun _ => 0)
  case atStart => rfl
  case round =>
    subst hrel
    go_wp2
    go_ret
    exact ⟨rfl, rfl⟩
end Go.Proofs

/-! PSc -/
namespace Go.Proofs.Ythicohakeljdcaa.Q
open Go Ovi Go.RowKit Go.Proofs
theorem ok : progOk Try.prog = true := by kernel_rfl
theorem mixed : Try.prog.follows .mixedOrders = true := by kernel_rfl
theorem bare (k : Nat) : Sound Try.prog noG (C0 k) := evCall_ok (drawSound mixed) (okProg ok) (sound_none _ _) k
theorem sort_nil : evCall Try.prog hs (fun _ => none) 8 56 [.d (.list 1 [])] = some [] := by kernel_rfl
theorem sortC : SortC Try.prog 56 where
  known := ⟨Try.f56, Try.func56, rfl, by kernel_rfl⟩
  run := fun blk off cap zs w hH hb hl => Any.slices_Sort_int Try.lays189 blk off cap zs w hH hb hl
  nil := fun A w => by
    refine ((bare 8).plain 56 _ _ sort_nil w (fun _ => False) (fun _ => False) #[.slice A 0 0] (fun _ h => h.elim) (fun _ h => h.elim) ⟨rfl, fun j a ha => ?_⟩ trivial).mono fun e w' ⟨v, S', mr, he, hb, _, _, hr, _⟩ => ?_
    · cases j with
      | zero => cases ha; exact ⟨_, rfl, RD.nil A 1⟩
      | succ j => simp at ha
    · obtain ⟨⟨vs, h1, h2, _⟩, _⟩ := hr
      obtain rfl := List.eq_nil_of_length_eq_zero h2
      exact ⟨by rw [he, h1], hb⟩
theorem compactC : CompactC Try.prog 57 where
  known := ⟨Try.f57, Try.func57, rfl, by kernel_rfl⟩
  run := fun blk off cap zs w hH hb hl => Any.slices_Compact_int Try.laysNm220 blk off cap zs w hH hb hl
  nil := fun A cap w => Any.slices_Compact_int_empty Try.laysNm220 A cap w
theorem cloneC : CloneC Try.prog 121 3 where
  known := ⟨Try.f121, Try.func121, rfl, by kernel_rfl⟩
  run := fun b off n c zs w hz hb hc => Any.slices_Clone_int Try.laysNm215 b off n c zs w hz hb hc
  nil := fun n c w => Any.slices_Clone_int_nil Try.laysNm215 n c w
  zero := fun a c w => Any.slices_Clone_int_zero Try.laysNm215 a c w
theorem some86 : (Try.prog.info? 86).isSome = true := by kernel_rfl
theorem cloneZC : CloneZC Try.prog 73 86 3 where
  base := {
    known := ⟨Try.f73, Try.func73, rfl, by kernel_rfl⟩
    pos := by decide
    run := fun b off n c news w hl hn hc h1 => by
      have hmax : (1099511627776 : Nat) ≤ maxLen := by decide
      exact (AnyE.slices_Clone Try.laysSlE041_f73 ((Try.prog.info? 86).get some86) (.agg #[.string ⟨#[]⟩, .int .i64 0, .bool false]) 3 32 (Option.some_get some86).symm (by kernel_rfl) (by kernel_rfl) (by kernel_rfl) rfl (by decide) Try.sizeOf86 b off n c news w hl (by omega) (by omega) hc h1).mono fun ex w' ⟨v', q1, q2, _, q3⟩ => ⟨v', q1, q2, q3⟩}
  nil := fun n c w => AnyE.slices_Clone_nil Try.laysSlE041_f73 n c w
  zero := fun a c w => cloneE_zero Try.laysSlE041_f73 ((Try.prog.info? 86).get some86) (.agg #[.string ⟨#[]⟩, .int .i64 0, .bool false]) 3 32 (Option.some_get some86).symm (by kernel_rfl) (by kernel_rfl) (by kernel_rfl) rfl (by decide) Try.sizeOf86 a c w
/-- markText -/
theorem ht (w : World) (k : Int) (h0 : 0 ≤ k) (h1 : k ≤ 4611686018427387904) : Calls Try.prog 79 #[.int .i64 k] w fun e w' => e = .returned (.string ⟨(mt k).toArray⟩) ∧ Below w.heap.size w w' := by
  have he : C0 3000 79 [.d (.int .i64 k)] = some [(false, [.d (.str (mt k))])] := (show C0 (2999 + 1) 79 [.d (.int .i64 k)] = evFnK P hs (C0 2999) 79 2999 Try.f79 [.d (.int .i64 k)] by kernel_rfl).trans (e79 2999 (C0 2999) k h0 h1 (by omega))
  refine ((bare 3000).plain 79 _ _ he w (fun _ => False) (fun _ => False) #[.int .i64 k] (fun _ h => h.elim) (fun _ h => h.elim) ⟨rfl, fun j a ha => ?_⟩ trivial).mono fun e w' ⟨v, S', mr, he, hb, _, _, hr, _⟩ => ?_
  · cases j with
    | zero => cases ha; exact ⟨_, rfl, RD.int .i64 k⟩
    | succ j => simp at ha
  · obtain ⟨⟨us, h1, h2, h3⟩, _⟩ := hr
    obtain ⟨u, hu, hone⟩ := h3 0 _ rfl
    simp only [List.length_cons, List.length_nil] at h2
    obtain ⟨u', rfl⟩ := List.length_eq_one_iff.1 h2
    simp only [List.getElem?_cons_zero, Option.some.injEq] at hu
    subst hu
    obtain ⟨l, hl, hrl⟩ := hone
    cases hl
    have hrl : RD w' S' (fun _ => False) u' (.str (mt k)) := hrl
    refine ⟨?_, hb⟩
    rw [he, h1]
    generalize hX : mt k = X at hrl ⊢
    generalize hY : D.str X = Y at hrl
    cases hrl with
    | str b =>
      cases hY
      simp
    | _ => cases hY
theorem mark13 : PrimOk Try.prog noG 13 (markP true (mkAg (stepInst mt))) := markP_ok ⟨Try.f13, Try.func13, rfl, by kernel_rfl⟩ (AggC.cells (Try.mInstance ht) likeInst)
theorem mark19 : PrimOk Try.prog noG 19 (markP true (mkAg (stepState mt))) := markP_ok ⟨Try.f19, Try.func19, rfl, by kernel_rfl⟩ (AggC.cells (Try.mState ht) likeState)
theorem sortF_nil : evCall Try.prog hs (fun _ => none) 8 58 [.d (.list 1 []), .d (.fn 59 [])] = some [] := by kernel_rfl
/-- the comparison's contract, by the walk -/
theorem cmpC : CmpC Try.prog 59 := by
  intro w S u v xs ys ⟨A, c, hu, hc, hx⟩ ⟨A', c', hv, hc', hy⟩ hxl hyl
  subst hu hv
  have fin : ∀ {z z' : Int}, z = z' → ∀ {vs : Array Value}, (Calls Try.prog 59 vs w fun e w' => e = .returned (.int .i64 z) ∧ w' = w) → Calls Try.prog 59 vs w fun e w' => e = .returned (.int .i64 z') ∧ ∃ q os, w' = Go.Sort.grow (w.drewN q) os := by
    intro z z' hz vs h
    subst hz
    exact h.mono fun e w' ⟨h1, h2⟩ => ⟨h1, 0, #[], by rw [h2, Go.Sort.grow_empty]; rfl⟩
  have addr : ∀ {zs : List Int} {B : Option Addr}, zs ≠ [] → (∀ (i : Nat) z, zs[i]? = some z → ∃ ad, B = some ad ∧ S ad.block ∧ w.cell? (ad.add i) = some (.int .i64 z)) → ∃ b o, B = some ⟨b, o, none⟩ ∧ ∀ (i : Nat) z, zs[i]? = some z → w.cell? ⟨b, o + i, none⟩ = some (.int .i64 z) := by
    intro zs B hne h
    cases zs with
    | nil => exact absurd rfl hne
    | cons z0 zs =>
      obtain ⟨ad, e, _, h0⟩ := h 0 z0 rfl
      obtain ⟨b, o, spot⟩ := ad
      have hspot : spot = none := by simpa [Addr.add] using World.cell?_spot h0
      subst hspot
      refine ⟨b, o, e, fun i z hz => ?_⟩
      obtain ⟨ad', e', _, hi⟩ := h i z hz
      rw [e] at e'
      cases e'
      rwa [add_at] at hi
  by_cases hx0 : xs = []
  · subst hx0
    refine fin ?_ (Try.cmp_nil A A' c ys.length c' w)
    cases ys with
    | nil => rfl
    | cons y ys => rw [if_pos (by simp)]; rfl
  · obtain ⟨b, o, rfl, hx1⟩ := addr hx0 hx
    by_cases hy0 : ys = []
    · subst hy0
      cases xs with
      | nil => exact absurd rfl hx0
      | cons x xs => exact fin rfl (Try.cmp_one b o c _ c' A' x w (by simp) (by have := hx1 0 x rfl; simpa using this))
    · obtain ⟨b', o', rfl, hy1⟩ := addr hy0 hy
      exact fin rfl (Try.cmp_both b o c b' o' c' xs ys w (by omega) (by omega) hx1 hy1)
theorem sortFC : SortFC Try.prog 58 59 where
  known := ⟨Try.f58, Try.func58, rfl, by kernel_rfl⟩
  run := fun w S blk cap d hS hn hH hb hsz => sortF_run Try.laysSlF6_f58 (enters_of Try.func59 (by kernel_rfl) rfl) cmpC w S blk cap d hS hn hH hb hsz
  nil := fun A w => by
    refine ((bare 8).plain 58 _ _ sortF_nil w (fun _ => False) (fun _ => False) #[.slice A 0 0, .func (.func 59) #[] #[]] (fun _ h => h.elim) (fun _ h => h.elim) ⟨rfl, fun j a ha => ?_⟩ trivial).mono fun e w' ⟨v, S', mr, he, hb, _, _, hr, _⟩ => ?_
    · match j, ha with
      | 0, ha => cases ha; exact ⟨_, rfl, RD.nil A 1⟩
      | 1, ha => cases ha; exact ⟨_, rfl, RD.fn 59 #[] [] (fun _ _ => undef) rfl (fun j xs h => by simp at h) (fun j c x h => by simp [cellD] at h)⟩
      | j + 2, ha => simp at ha
    · obtain ⟨⟨vs, h1, h2, _⟩, _⟩ := hr
      obtain rfl := List.eq_nil_of_length_eq_zero h2
      exact ⟨by rw [he, h1], hb⟩
theorem mark24 : PrimOk Try.prog noG 24 (markP false (mkLs 1 (mkRows stepInts))) := markP_ok ⟨Try.f24, Try.func24, rfl, by kernel_rfl⟩ (ListC.cells Try.mIntSS fun xs k xs' k' h => mkRows_len h)
theorem sound (k : Nat) : Sound Try.prog noG (C k) := evCall_ok (drawSound mixed) (okProg ok) (sound_prims (by
  intro x hx
  simp only [List.mem_cons, List.not_mem_nil, or_false] at hx
  rcases hx with rfl | rfl | rfl | rfl | rfl | rfl | rfl | rfl
  · exact sortC.ok
  · exact compactC.ok
  · exact cloneC.ok
  · exact cloneZC.ok
  · exact mark13
  · exact mark19
  · exact sortFC.okG
  · exact mark24)) k
end Go.Proofs.Ythicohakeljdcaa.Q

/-! Sd -/
namespace Ovi
open Go Go.RowKit
/-! ### A law's own arguments, as seeds -/
def seedL : AV → AV
  | .d (.list sz l) => .s sz l
  | a => a
def seedA : AV → AV
  | .agg l => .agg (l.map seedL)
  | a => seedL a
section
variable {w : World} {hp : Hp} {m : MapM}
theorem leaf_seed {u : Value} {a : AV} (h : leafC w (Here w) (Here w) hp m u a) : leafC w (Here w) (Here w) hp m u (seedL a) := by
  cases a with
  | d x =>
    cases x with
    | list sz l => exact ⟨h, fun _ h => h, h⟩
    | _ => exact h
  | _ => exact h
theorem AC_seed {u : Value} {a : AV} (h : AC w (Here w) (Here w) hp m u a) : AC w (Here w) (Here w) hp m u (seedA a) := by
  cases a with
  | agg l =>
    obtain ⟨vs, h1, h2, h3⟩ := h
    refine ⟨vs, h1, by simp [h2], fun j a ha => ?_⟩
    rw [List.getElem?_map] at ha
    obtain ⟨b, hb, rfl⟩ := Option.map_eq_some_iff.1 ha
    obtain ⟨v, hv, hl⟩ := h3 j b hb
    exact ⟨v, hv, leaf_seed hl⟩
  | d x =>
    cases x with
    | list sz l => exact ⟨h, fun _ h => h, h⟩
    | _ => exact h
  | _ => exact h
end
end Ovi

/-! PE5 -/
namespace Go.Proofs.Ythicohakeljdcaa.Q
open Go Ovi Go.ChangeShapes Go.WideShapes Go.ChangeAt Go.RowKit
theorem own : ownKnob Try.prog.godebug = none := by kernel_rfl
theorem laidOut : laidOutB Try.prog = true := by kernel_rfl
def ty5 : List (Bool × List Ty) := [(true, [.list [.str, .int .i64, .bool], .list [.int .i64, .list [.int .i64]]])]
theorem tys5 : parTys Try.prog Try.f5.params.toList = some ty5 := by kernel_rfl
theorem readable5 : readable Try.prog Try.f5.params.toList = true := by kernel_rfl
theorem law_args5 {av : List AV} (h : ArgsFit ty5 av) : C 3000000 5 (av.map seedA) = some yes := by
  match av, h with
  | [p0], h =>
    simp only [ty5, ArgsFit, and_true] at h
    have g0 := h
    cases p0 <;> simp only [ArgFit] at g0
    obtain ⟨ds0, rfl, g0⟩ := g0
    obtain ⟨_, _, rfl, e0_0, g0⟩ := Fits.cons g0
    obtain ⟨_, _, rfl, e0_1, g0⟩ := Fits.cons g0
    obtain rfl := Fits.nil g0
    obtain ⟨_, rfl, e0_0⟩ := e0_0.list (n := 3) rfl
    obtain ⟨_, rfl, e0_1⟩ := e0_1.list (n := 2) rfl
    refine Eq.trans ?_ (show bo true = some yes from rfl)
    simpa only [asD, List.map_cons, List.map_nil, seedA, seedL] using law5 (Nat.le_refl _) e0_0 e0_1
set_option maxRecDepth 100000 in
theorem lifted5 (os : Os) (started : os.Started) (H : Type) (enc : TypeId × Value → H) :
    ReturnsInHanded {} Try.checked os 5 .any (Rows.fnExactNullBlocksSpec.pre6 enc Try.prog Try.f5 Rows.fnExactNullBlocksRow.domain false) (Rows.fnExactNullBlocksSpec.post enc Try.prog Try.f5 false true false false) := by
  refine returnsInHanded_of_change (C := Try.checked) own started (by kernel_rfl) Try.func5
    (ChangeSpec.witness6 (enc := enc) (C := Try.checked) false ⟨#[], #[.agg #[.slice none 0 0, .slice none 0 0]], []⟩ 8 (by kernel_rfl) (by kernel_rfl) (by kernel_rfl) (by kernel_rfl)) ?_
  intro W base args ds gs before hval0 hW hcnd _
  have hval : ∀ (j : Nat) t v, Try.f5.params[j]? = some t → args[j]? = some v → Value.okWide Try.prog W .any base t v := hval0
  have hW' := hW
  obtain ⟨p, q, hA0, hV, rfl, hfz, hnd⟩ := hW
  have hA : DataW.TrodAll enc Try.prog W 0 (fun _ => true) true Try.f5.params.toList args.toList ds p := hA0
  obtain ⟨rfl, rfl⟩ := trodVars_none hV
  obtain ⟨av, hfit, hlen, hac⟩ := args_in hA (base := base) (fun j t v h1 h2 => hval j t v (by simpa using h1) (by simpa using h2)) tys5
  refine (calls_yes (sound 3000000) (law_args5 hfit) (vs := args) ⟨by simpa using hlen, fun j a ha => by
    rw [List.getElem?_map] at ha
    obtain ⟨b, hb, rfl⟩ := Option.map_eq_some_iff.1 ha
    obtain ⟨u, hu, hc⟩ := hac j b hb
    exact ⟨u, by simpa using hu, AC_seed hc⟩⟩ trivial).mono fun e W' ⟨he, bel⟩ => ?_
  subst he
  have hk := kept_all laidOut bel readable5 hA
  obtain ⟨d0, rfl⟩ : ∃ d0, ds = [d0] := by
    obtain ⟨v0, vs0, d0, ds0, p0, q0, rg0, rfl, rfl, h0, r0⟩ := trodAll_cons hA
    obtain ⟨rfl, rfl, rfl⟩ := trodAll_nil r0
    exact ⟨_, rfl⟩
  exact ⟨_, rfl, _, _, _, [], _, [], hW', trodAll_mk1 (shut_bool (show Try.prog.underlying 4 = some .bool by kernel_rfl) _), hk, rfl, bel.frame _, fun h => by cases h⟩
theorem over5 : Rows.fnExactNullBlocksRow.holds Try.pinned (OpenSpec.ofChange Rows.fnExactNullBlocksSpec) :=
  OpenClaim.holds_of_wide 5 Try.f5 rfl rfl rfl rfl rfl rfl rfl ⟨rfl, rfl, rfl, rfl, rfl⟩ rfl rfl rfl rfl rfl (by kernel_rfl) Try.func5 (by kernel_rfl)
    (of_decide_eq_true (by kernel_rfl)) (by unfold Func.isWrapper; first | (rw [if_pos (by decide +kernel)]; kernel_rfl) | (rw [if_neg (by decide +kernel)]; exact ⟨rfl, rfl⟩))
    (fun os started H enc _ => lifted5 os started H enc)
end Go.Proofs.Ythicohakeljdcaa.Q
namespace Go.Proofs.Ythicohakeljdcaa
theorem fnExactNullBlocks_holds : Rows.FnExactNullBlocksSaid := Q.over5
#print axioms fnExactNullBlocks_holds
end Go.Proofs.Ythicohakeljdcaa

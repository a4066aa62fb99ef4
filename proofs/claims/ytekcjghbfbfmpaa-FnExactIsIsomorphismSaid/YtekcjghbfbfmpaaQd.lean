/-
For every two instances and every substitution the law FnExactIsIsomorphism returns true, and the arguments read afterwards as they read before. No condition.
-/
import Derived.Test.YtekcjghbfbfmpaaQc
import Derived.Test.YtekcjghbfbfmpaaQa
import Derived.Test.YtekcjghbfbfmpaaRows
set_option linter.unusedVariables false
set_option linter.unusedSimpArgs false
/-! Hc -/
namespace Go.Proofs.Ytekcjghbfbfmpaa.Q
open Go Ovi
theorem I1_c' {zs : List Int} {i : Nat} {z : Int} (h : zs[i]? = some z) : cellI .i64 (I1 zs) (i : Int).toNat 0 = some z := by rw [Int.toNat_natCast, cellI_at (I1_get' h)]; simp [asI_s]
theorem A1_0 {xs : List Atom} {i : Nat} {x : Atom} (h : xs[i]? = some x) : cellI .i64 (A1 xs) (i : Int).toNat 0 = some x.1 := by rw [Int.toNat_natCast, cellI_at (A1_get h)]; simp [asI_s]
theorem A1_1 {xs : List Atom} {i : Nat} {x : Atom} (h : xs[i]? = some x) : cellL 1 (A1 xs) (i : Int).toNat 1 = some (I1 x.2) := by rw [Int.toNat_natCast, cellL_at (A1_get h)]; simp [asL_s]
theorem prev_i {i : Nat} (h : i ≠ 0) (hm : i ≤ 1048576) : IntKind.i64.wrap ((i : Int) - 1) = ((i - 1 : Nat) : Int) := by rw [wrap_id (by omega) (by omega)]; omega
/-! ### substitutions -/
def sBad (ks vs : List Int) (i : Nat) (x : Int) : Bool := !decide (0 ≤ x ∧ x ≤ 39) || ((decide (i > 0) && decide (x ≤ ks.getD (i - 1) 0)) || !okV (vs.getD i 0))
/-- both IsValidSubstitution answer alike -/
theorem subB (ks vs : List Int) (hV : ∀ v ∈ vs, inI v) (h1 : ks.length ≤ 1048576) (h2 : vs.length ≤ 1048576) : ∃ b, (b = true → ks.length = vs.length ∧ ∀ x ∈ ks, 0 ≤ x ∧ x ≤ 39) ∧ ∀ k, 2000000 ≤ k → C (k + 4) 147 [.agg [.d (.list 1 (I1 ks)), .d (.list 1 (I1 vs))]] = bo b ∧ C (k + 4) 142 [.agg [.d (.list 1 (I1 ks)), .d (.list 1 (I1 vs))]] = bo b := by
  have hmax : (1048576 : Nat) ≤ maxLen := by decide
  by_cases hl : ks.length = vs.length
  rotate_left
  · refine ⟨false, fun h => (by cases h), fun k hk => ?_⟩
    rw [F147.run, F142.run, I1_len, I1_len, ite'_t (by simp; omega), ite'_t (b := (ks.length : Int) != (vs.length : Int)) (by simp; omega)]
    exact ⟨rfl, rfl⟩
  have step : ∀ k, 2000000 ≤ k → ∀ (n i : Nat) x, ks[i]? = some x → F147.L4 (k + 3) (C (k + 3)) (n + 1) (I1 ks) (ks.length : Int) (i : Int) (I1 ks) (I1 vs) = cond (sBad ks vs i x) (bo false) (F147.L4 (k + 3) (C (k + 3)) n (I1 ks) (ks.length : Int) ((i + 1 : Nat) : Int) (I1 ks) (I1 vs)) ∧
      F142.L4 (k + 3) (C (k + 3)) (n + 1) (i : Int) (I1 ks) (I1 vs) = cond (sBad ks vs i x) (bo false) (F142.L4 (k + 3) (C (k + 3)) n ((i + 1 : Nat) : Int) (I1 ks) (I1 vs)) := by
    intro k hk n i x hx
    have hi := (List.getElem?_eq_some_iff.1 hx).1
    have hv : vs[i]? = some (vs.getD i 0) := by rw [List.getD_eq_getElem?_getD, List.getElem?_eq_getElem (by omega)]; rfl
    have hvI := hV _ (List.mem_of_getElem? hv)
    rw [F147.L4.succ, F142.L4.succ, I1_len, I1_len, ite'_t (lt_t hi), ite'_t (inR_t hi), ite'_t (lt_t hi), ite'_t (inR_t hi), I1_c' hx]
    simp only [bindI_s]
    rw [c113, c65, bB, bB, next_i hi (m := ks.length) (by omega)]
    unfold sBad
    cases decide (0 ≤ x ∧ x ≤ 39) with
    | false => exact ⟨rfl, rfl⟩
    | true =>
      rw [ite'_nt, ite'_nt, ite'_t (inR_t hi), show inR (i : Int) vs.length = true from inR_t (by omega), I1_c' hv]
      simp only [bindI_s]
      rw [c162, c90 hvI, bB, bB]
      by_cases h0 : i = 0
      · subst h0
        rw [ite'_f (by simp), ite'_f (b := decide (((0 : Nat) : Int) > 0)) (by simp), ite'_t rfl, ite'_t rfl]
        cases okV (vs.getD 0 0) <;> exact ⟨rfl, rfl⟩
      · have hp : ks[i - 1]? = some (ks.getD (i - 1) 0) := by rw [List.getD_eq_getElem?_getD, List.getElem?_eq_getElem (by omega)]; rfl
        have hgt : decide ((i : Int) > 0) = true := by simp; omega
        rw [hgt, ite'_t rfl, ite'_t rfl, prev_i h0 (by omega), show inR ((i - 1 : Nat) : Int) ks.length = true from inR_t (by omega), ite'_t rfl, ite'_t rfl, I1_c' hp]
        simp only [bindI_s]
        rw [show decide (i > 0) = true by simp; omega]
        cases decide (x ≤ ks.getD (i - 1) 0) <;> cases okV (vs.getD i 0) <;> exact ⟨rfl, rfl⟩
  have d1 : ∀ k n, F147.L4 (k + 3) (C (k + 3)) (n + 1) (I1 ks) (ks.length : Int) (ks.length : Int) (I1 ks) (I1 vs) = bo true := fun k n => by rw [F147.L4.succ, ite'_f (lt_f (by omega))]; rfl
  have d2 : ∀ k n, F142.L4 (k + 3) (C (k + 3)) (n + 1) (ks.length : Int) (I1 ks) (I1 vs) = bo true := fun k n => by rw [F142.L4.succ, I1_len, ite'_f (lt_f (by omega))]; rfl
  have run : ∀ k, C (k + 4) 147 [.agg [.d (.list 1 (I1 ks)), .d (.list 1 (I1 vs))]] = F147.L4 (k + 3) (C (k + 3)) (k + 3) (I1 ks) (ks.length : Int) 0 (I1 ks) (I1 vs) ∧ C (k + 4) 142 [.agg [.d (.list 1 (I1 ks)), .d (.list 1 (I1 vs))]] = F142.L4 (k + 3) (C (k + 3)) (k + 3) 0 (I1 ks) (I1 vs) := by
    intro k
    rw [F147.run, F142.run, I1_len, I1_len, ite'_f (by simp [hl]), ite'_f (b := (ks.length : Int) != (vs.length : Int)) (by simp [hl])]
    exact ⟨rfl, rfl⟩
  by_cases hall : ∀ (i : Nat) x, ks[i]? = some x → sBad ks vs i x = false
  · refine ⟨true, fun _ => ⟨hl, fun x hx => ?_⟩, fun k hk => ?_⟩
    · obtain ⟨i, hi⟩ := List.mem_iff_getElem?.1 hx
      have := hall i x hi
      simp only [sBad, Bool.or_eq_false_iff, Bool.not_eq_false', decide_eq_true_eq] at this
      exact this.1
    · rw [(run k).1, (run k).2]
      constructor
      · rcases loop_find (L := fun n i => F147.L4 (k + 3) (C (k + 3)) n (I1 ks) (ks.length : Int) i (I1 ks) (I1 vs)) (stop := sBad ks vs) (hit := fun _ => bo false) (fin := bo true) (fun n i x hx => (step k hk n i x hx).1) (d1 k) (k + 3) (by omega) with ⟨i, x, hx, hst, _⟩ | ⟨_, h⟩
        · rw [hall i x hx] at hst; cases hst
        · exact h
      · rcases loop_find (L := fun n i => F142.L4 (k + 3) (C (k + 3)) n i (I1 ks) (I1 vs)) (stop := sBad ks vs) (hit := fun _ => bo false) (fin := bo true) (fun n i x hx => (step k hk n i x hx).2) (d2 k) (k + 3) (by omega) with ⟨i, x, hx, hst, _⟩ | ⟨_, h⟩
        · rw [hall i x hx] at hst; cases hst
        · exact h
  · refine ⟨false, fun h => (by cases h), fun k hk => ?_⟩
    rw [(run k).1, (run k).2]
    constructor
    · rcases loop_find (L := fun n i => F147.L4 (k + 3) (C (k + 3)) n (I1 ks) (ks.length : Int) i (I1 ks) (I1 vs)) (stop := sBad ks vs) (hit := fun _ => bo false) (fin := bo true) (fun n i x hx => (step k hk n i x hx).1) (d1 k) (k + 3) (by omega) with ⟨i, x, hx, hst, h⟩ | ⟨h, _⟩
      · exact h
      · exact absurd h hall
    · rcases loop_find (L := fun n i => F142.L4 (k + 3) (C (k + 3)) n i (I1 ks) (I1 vs)) (stop := sBad ks vs) (hit := fun _ => bo false) (fin := bo true) (fun n i x hx => (step k hk n i x hx).2) (d2 k) (k + 3) (by omega) with ⟨i, x, hx, hst, h⟩ | ⟨h, _⟩
      · exact h
      · exact absurd h hall
/-- both ApplyToValue give the same, by a valid substitution -/
theorem appB (ks vs : List Int) (h1 : ks.length ≤ 1048576) (hl : ks.length = vs.length) (hr : ∀ x ∈ ks, 0 ≤ x ∧ x ≤ 39)
    (hs : ∀ k, 2000000 ≤ k → C (k + 4) 147 [.agg [.d (.list 1 (I1 ks)), .d (.list 1 (I1 vs))]] = bo true ∧ C (k + 4) 142 [.agg [.d (.list 1 (I1 ks)), .d (.list 1 (I1 vs))]] = bo true) (v : Int) (hv : inI v) :
    ∃ r, ∀ k, 2000000 ≤ k → C (k + 5) 175 [.agg [.d (.list 1 (I1 ks)), .d (.list 1 (I1 vs))], .d (.int .i64 v)] = io r ∧ C (k + 5) 171 [.agg [.d (.list 1 (I1 ks)), .d (.list 1 (I1 vs))], .d (.int .i64 v)] = io r := by
  have hmax : (1048576 : Nat) ≤ maxLen := by decide
  -- the place of a number
  let n : Int := if isN v then -1 - v else 0
  have e118 : ∀ k, 2000000 ≤ k → (∃ i x, ks[i]? = some x ∧ (n == x) = true ∧ (∀ (j : Nat) y, j < i → ks[j]? = some y → (n == y) = false) ∧ C (k + 4) 118 [.d (.list 1 (I1 ks)), .d (.int .i64 n)] = io (i : Int)) ∨ ((∀ (i : Nat) x, ks[i]? = some x → (n == x) = false) ∧ C (k + 4) 118 [.d (.list 1 (I1 ks)), .d (.int .i64 n)] = io (-1)) := by
    intro k hk
    rw [F118.run, I1_len]
    exact loop_first (xs := ks) (L := fun m i => F118.L2 (k + 3) (C (k + 3)) m (I1 ks) n (ks.length : Int) i) (stop := fun _ x => n == x) (hit := fun i => io (i : Int)) (fin := io (-1))
      (fun m i x hx => by
        have hi := (List.getElem?_eq_some_iff.1 hx).1
        rw [F118.L2.succ, I1_len, ite'_t (lt_t hi), ite'_t (inR_t hi), I1_c' hx, bindI_s, next_i hi (m := ks.length) (by omega)]; rfl)
      (fun m => by rw [F118.L2.succ, ite'_f (lt_f (by omega))]; rfl) (k + 3) (by omega)
  have e171 : ∀ k, 2000000 ≤ k → (∃ i x, ks[i]? = some x ∧ decide (-1 - x = v) = true ∧ (∀ (j : Nat) y, j < i → ks[j]? = some y → decide (-1 - y = v) = false) ∧ C (k + 5) 171 [.agg [.d (.list 1 (I1 ks)), .d (.list 1 (I1 vs))], .d (.int .i64 v)] = io (vs.getD i 0)) ∨ ((∀ (i : Nat) x, ks[i]? = some x → decide (-1 - x = v) = false) ∧ C (k + 5) 171 [.agg [.d (.list 1 (I1 ks)), .d (.list 1 (I1 vs))], .d (.int .i64 v)] = io v) := by
    intro k hk
    rw [F171.run]
    exact loop_first (xs := ks) (L := fun m i => F171.L2 (k + 4) (C (k + 4)) m v i (I1 ks) (I1 vs)) (stop := fun _ x => decide (-1 - x = v)) (hit := fun i => io (vs.getD i 0)) (fin := io v)
      (fun m i x hx => by
        have hi := (List.getElem?_eq_some_iff.1 hx).1
        have hxr := hr x (List.mem_of_getElem? hx)
        have hvi : vs[i]? = some (vs.getD i 0) := by rw [List.getD_eq_getElem?_getD, List.getElem?_eq_getElem (by omega)]; rfl
        rw [F171.L2.succ, I1_len, ite'_t (lt_t hi), (hs k hk).2, bB, ite'_t rfl, ite'_t (inR_t hi), I1_c' hx, bindI_s, F190.run]
        simp only [bindR_s, resI_s, bindI_s]
        rw [wrap_id (by omega) (by omega), I1_len, ite'_t (x := bindI (cellI .i64 (I1 vs) (i : Int).toNat 0) _) (inR_t (by omega)), I1_c' hvi, bindI_s, next_i hi (m := ks.length) (by omega)]
        by_cases h : -1 - x = v
        · rw [ite'_t (by simpa using h), decide_eq_true h]; rfl
        · rw [ite'_f (by simpa using h), decide_eq_false h]; rfl)
      (fun m => by rw [F171.L2.succ, I1_len, ite'_f (lt_f (by omega))]; rfl) (k + 4) (by omega)
  have e175 : ∀ k, 2000000 ≤ k → ∀ q, C (k + 4) 118 [.d (.list 1 (I1 ks)), .d (.int .i64 n)] = io q → C (k + 5) 175 [.agg [.d (.list 1 (I1 ks)), .d (.list 1 (I1 vs))], .d (.int .i64 v)] = ite' (!isN v) (io v) (ite' (decide (q < 0)) (io v) (ite' (inR q vs.length) (bindI (cellI .i64 (I1 vs) q.toNat 0) fun z => io z) none)) := by
    intro k hk q hq
    rw [F175.run, c168 (k := k + 2) hv, nnB]
    show (bindR (C (k + 4) 118 [.d (.list 1 (I1 ks)), .d (.int .i64 n)]) fun r => bindI (resI .i64 1 false 1 r 0 0) _) = _
    rw [hq, iB', (hs k hk).1, bB, ite'_nt, I1_len]
    rfl
  cases hn : isN v with
  | false =>
    have hnf := isN_f hn
    refine ⟨v, fun k hk => ⟨?_, ?_⟩⟩
    · rcases e118 k hk with ⟨i, x, _, _, _, e⟩ | ⟨_, e⟩ <;> rw [e175 k hk _ e, hn, ite'_nf]
    · rcases e171 k hk with ⟨i, x, hx, hst, _, e⟩ | ⟨_, e⟩
      · have := hr x (List.mem_of_getElem? hx)
        have := of_decide_eq_true hst
        omega
      · exact e
  | true =>
    have hnt := isN_t hn
    have hnv : n = -1 - v := by simp [n, hn]
    by_cases hex : ∃ (i : Nat), ks[i]? = some n
    · obtain ⟨i0, hi0⟩ := hex
      obtain ⟨i, hi, hfirst⟩ : ∃ i : Nat, ks[i]? = some n ∧ ∀ j : Nat, j < i → ks[j]? ≠ some n := by
        rcases e118 2000000 (Nat.le_refl _) with ⟨i, x, hx, hst, hf, _⟩ | ⟨h, _⟩
        · have : n = x := by simpa using hst
          subst this
          exact ⟨i, hx, fun j hj hc => by have := hf j n hj hc; simp at this⟩
        · have := h i0 n hi0; simp at this
      have hil := (List.getElem?_eq_some_iff.1 hi).1
      have hvi : vs[i]? = some (vs.getD i 0) := by rw [List.getD_eq_getElem?_getD, List.getElem?_eq_getElem (by omega)]; rfl
      refine ⟨vs.getD i 0, fun k hk => ⟨?_, ?_⟩⟩
      · rcases e118 k hk with ⟨j, x, hx, hst, hf, e⟩ | ⟨h, _⟩
        · have hxn : n = x := by simpa using hst
          subst hxn
          have hij : j = i := by
            rcases Nat.lt_trichotomy j i with h | h | h
            · exact absurd hx (hfirst j h)
            · exact h
            · have := hf i n h hi; simp at this
          subst hij
          rw [e175 k hk _ e, hn, ite'_nt, ite'_f (neg_f (by omega)), ite'_t (inR_t (by omega)), I1_c' hvi, bindI_s]
        · have := h i n hi; simp at this
      · rcases e171 k hk with ⟨j, x, hx, hst, hf, e⟩ | ⟨h, _⟩
        · have hxn : x = n := by have := of_decide_eq_true hst; omega
          subst hxn
          have hij : j = i := by
            rcases Nat.lt_trichotomy j i with h | h | h
            · exact absurd hx (hfirst j h)
            · exact h
            · have := hf i _ h hi; simp at this; omega
          subst hij
          exact e
        · have := h i n hi; simp at this; omega
    · refine ⟨v, fun k hk => ⟨?_, ?_⟩⟩
      · rcases e118 k hk with ⟨j, x, hx, hst, _, e⟩ | ⟨_, e⟩
        · have hxn : n = x := by simpa using hst
          subst hxn
          exact absurd ⟨j, hx⟩ hex
        · rw [e175 k hk _ e, hn, ite'_nt, ite'_t (by decide)]
      · rcases e171 k hk with ⟨j, x, hx, hst, _, e⟩ | ⟨_, e⟩
        · have hxn : x = n := by have := of_decide_eq_true hst; omega
          subst hxn
          exact absurd ⟨j, hx⟩ hex
        · exact e
end Go.Proofs.Ytekcjghbfbfmpaa.Q

/-! Ic -/
namespace Go.Proofs.Ytekcjghbfbfmpaa.Q
open Go Ovi
/-- what both ApplyToValue give -/
def Ap (ks vs : List Int) (ap : Int → Int) : Prop := ∀ v, inI v → ∀ k, 2000000 ≤ k → C (k + 5) 175 [.agg [.d (.list 1 (I1 ks)), .d (.list 1 (I1 vs))], .d (.int .i64 v)] = io (ap v) ∧ C (k + 5) 171 [.agg [.d (.list 1 (I1 ks)), .d (.list 1 (I1 vs))], .d (.int .i64 v)] = io (ap v)
variable {k : Nat}
theorem cmpI_zero' : ∀ (a b : List Int), cmpI a b = 0 ↔ a = b
  | [], [] => by simp [cmpI]
  | [], _ :: _ => by simp [cmpI]
  | _ :: _, [] => by simp [cmpI]
  | x :: xs, y :: ys => by
    unfold cmpI
    by_cases h1 : x < y
    · rw [if_pos h1]
      constructor
      · intro h; omega
      · intro h; cases h; omega
    · rw [if_neg h1]
      by_cases h2 : x > y
      · rw [if_pos h2]
        constructor
        · intro h; omega
        · intro h; cases h; omega
      · rw [if_neg h2, cmpI_zero' xs ys]
        have : x = y := by omega
        subst this
        simp
/-- slices.Equal on integers -/
theorem c57 (a b : List Int) (hk : a.length < k) (ha : a.length ≤ maxLen) : C (k + 1) 57 [.d (.list 1 (I1 a)), .d (.list 1 (I1 b))] = bo (decide (a = b)) := by
  rw [F57.run, I1_len, I1_len]
  by_cases hl : a.length = b.length
  · rw [ite'_f (by simp [hl])]
    have := loop_find (xs := a) (L := fun n i => F57.L4 k (C k) n (I1 a) (I1 b) (a.length : Int) i) (stop := fun i x => x != b.getD i 0) (hit := fun _ => bo false) (fin := bo true)
      (fun n i x hx => by
        have hi := (List.getElem?_eq_some_iff.1 hx).1
        have hy : b[i]? = some (b.getD i 0) := by rw [List.getD_eq_getElem?_getD, List.getElem?_eq_getElem (by omega)]; rfl
        rw [F57.L4.succ, I1_len, I1_len, ite'_t (lt_t hi), ite'_t (inR_t hi), I1_c' hx, bindI_s, ite'_t (inR_t (by omega)), I1_c' hy, bindI_s, next_i hi ha]; rfl)
      (fun n => by rw [F57.L4.succ, ite'_f (lt_f (by omega))]; rfl) k hk
    rcases this with ⟨i, x, hx, hst, e⟩ | ⟨hst, e⟩
    · rw [show F57.L4 k (C k) k (I1 a) (I1 b) (a.length : Int) 0 = _ from e]
      refine bo_eq (decide_eq_false (fun h => ?_)).symm
      subst h
      rw [List.getD_eq_getElem?_getD, hx] at hst
      simp at hst
    · rw [show F57.L4 k (C k) k (I1 a) (I1 b) (a.length : Int) 0 = _ from e]
      refine bo_eq (decide_eq_true ?_).symm
      apply List.ext_getElem?
      intro i
      by_cases hi : i < a.length
      · have := hst i a[i] (List.getElem?_eq_getElem hi)
        rw [List.getD_eq_getElem?_getD, List.getElem?_eq_getElem (by omega)] at this
        rw [List.getElem?_eq_getElem hi, List.getElem?_eq_getElem (by omega)]
        simpa using this
      · rw [List.getElem?_eq_none (by omega), List.getElem?_eq_none (by omega)]
  · rw [ite'_t (by simp; omega)]
    exact bo_eq (decide_eq_false (fun h => hl (by rw [h]))).symm
/-- impl.factCopy -/
theorem c166 (r : Int) (zs : List Int) (hz : zs.length ≤ 1048576) : C (k + 2) 166 [.agg [.d (.int .i64 r), .d (.list 1 (I1 zs))]] = some [(true, [.d (.int .i64 r), .row 3 1 (I1 zs)])] := by
  have e : C (k + 1) 189 [.d (.list 1 (I1 zs))] = some [(false, [.row 3 1 (I1 zs)])] := by
    refine (show C (k + 1) 189 [.d (.list 1 (I1 zs))] = cloneP 3 [.d (.list 1 (I1 zs))] by kernel_rfl).trans ?_
    unfold cloneP
    simp only [ints_I1]
    rw [show Nat.ble zs.length 1099511627776 = true from Nat.ble_eq_true_of_le (by omega)]
    rfl
  rw [F166.run, e]
  rfl
def mapF (ap : Int → Int) (x : Atom) : Atom := (x.1, x.2.map ap)
theorem fact_0 {r : Int} {l : Ovi.Rows} : resI .i64 1 true 2 [(true, [.d (.int .i64 r), .row 3 1 l])] 0 0 = some r := rfl
theorem fact_1 {r : Int} {l : Ovi.Rows} : resO 3 1 1 true 2 [(true, [.d (.int .i64 r), .row 3 1 l])] 0 1 = some l := rfl
/-- impl.ApplyToFact -/
theorem c151 {ks vs : List Int} {ap : Int → Int} (hap : Ap ks vs ap) (x : Atom) (hI : ∀ z ∈ x.2, inI z) (hk : 2000000 ≤ k) (hz : x.2.length ≤ 1048576) : C (k + 6) 151 [.agg [.d (.list 1 (I1 ks)), .d (.list 1 (I1 vs))], .agg [.d (.int .i64 x.1), .d (.list 1 (I1 x.2))]] = some [(true, [.d (.int .i64 x.1), .row 3 1 (I1 (x.2.map ap))])] := by
  have hmax : (1048576 : Nat) ≤ maxLen := by decide
  rw [F151.run, c166 (k := k + 3) x.1 x.2 hz]
  simp only [bindR_s, fact_0, fact_1, bindI_s, bindL_s]
  rw [I1_len]
  have main : ∀ (m i n : Nat) (v : Ovi.Rows), i + m = x.2.length → m < n → Filled (I1 (x.2.map ap)) v i 1 → F151.L3 (k + 5) (C (k + 5)) n (I1 x.2) (x.2.length : Int) (i : Int) (I1 ks) (I1 vs) 0 [] x.1 v = some [(true, [.d (.int .i64 x.1), .row 3 1 (I1 (x.2.map ap))])] := by
    intro m
    induction m with
    | zero =>
      intro i n v hm hn hf
      obtain ⟨n, rfl⟩ : ∃ j, n = j + 1 := ⟨n - 1, by omega⟩
      have : v = I1 (x.2.map ap) := by
        have e : i = (I1 (x.2.map ap)).length := by rw [I1_len, List.length_map]; omega
        rw [e] at hf
        exact hf.done
      rw [F151.L3.succ, ite'_f (lt_f (by omega)), this]
    | succ m ih =>
      intro i n v hm hn hf
      obtain ⟨n, rfl⟩ : ∃ j, n = j + 1 := ⟨n - 1, by omega⟩
      have hi : i < x.2.length := by omega
      have hx := List.getElem?_eq_getElem hi
      have hvl := hf.1
      rw [I1_len, List.length_map] at hvl
      rw [F151.L3.succ, ite'_t (lt_t hi), I1_len, ite'_t (inR_t hi), I1_c' hx, bindI_s, (hap _ (hI _ (List.getElem_mem hi)) k hk).1, iB', ite'_t (inR_t (by omega)), next_i hi (m := x.2.length) (by omega), Int.toNat_natCast]
      refine ih (i + 1) n _ (by omega) (by omega) (hf.step ?_ rfl)
      rw [I1_get' (z := ap x.2[i])]
      simp [hi]
  refine main x.2.length 0 (k + 5) (I1 x.2) (by omega) (by omega) ⟨by simp [I1_len], by simp, fun r hr => ?_⟩
  obtain ⟨i, hi⟩ := List.mem_iff_getElem?.1 hr
  exact I1_rows x.2 i r hi
/-- spec.ApplyToFact -/
theorem c145 {ks vs : List Int} {ap : Int → Int} (hap : Ap ks vs ap) (x : Atom) (hI : ∀ z ∈ x.2, inI z) (hk : 2000000 ≤ k) (hz : x.2.length ≤ 1048576) : C (k + 6) 145 [.agg [.d (.list 1 (I1 ks)), .d (.list 1 (I1 vs))], .agg [.d (.int .i64 x.1), .d (.list 1 (I1 x.2))]] = some [(true, [.d (.int .i64 x.1), .row 3 1 (I1 (x.2.map ap))])] := by
  have hmax : (1048576 : Nat) ≤ maxLen := by decide
  rw [F145.run]
  have main : ∀ (m i n : Nat), i + m = x.2.length → m < n → F145.L3 (k + 5) (C (k + 5)) n (i : Int) (I1 ks) (I1 vs) x.1 (I1 x.2) 0 [] x.1 (I1 ((x.2.take i).map ap)) = some [(true, [.d (.int .i64 x.1), .row 3 1 (I1 (x.2.map ap))])] := by
    intro m
    induction m with
    | zero =>
      intro i n hm hn
      obtain ⟨n, rfl⟩ : ∃ j, n = j + 1 := ⟨n - 1, by omega⟩
      obtain rfl : i = x.2.length := by omega
      rw [F145.L3.succ, I1_len, ite'_f (lt_f (by omega)), List.take_length]
    | succ m ih =>
      intro i n hm hn
      obtain ⟨n, rfl⟩ : ∃ j, n = j + 1 := ⟨n - 1, by omega⟩
      have hi : i < x.2.length := by omega
      have hx := List.getElem?_eq_getElem hi
      have e : I1 ((x.2.take i).map ap) ++ [[.int .i64 (ap x.2[i])]] = I1 ((x.2.take (i + 1)).map ap) := by
        rw [List.take_succ_eq_append_getElem hi]
        simp only [I1, List.map_append, List.map_cons, List.map_nil]
      rw [F145.L3.succ, I1_len, ite'_t (lt_t hi), ite'_t (inR_t hi), I1_c' hx, bindI_s, (hap _ (hI _ (List.getElem_mem hi)) k hk).2, iB', ite'_t (fits_t (by simp [I1_len]; omega)), e, next_i hi (m := x.2.length) (by omega)]
      exact ih (i + 1) n (by omega) (by omega)
  exact main x.2.length 0 (k + 5) (by omega) (by omega)
/-! ### is it there? -/
def hasF (ys : List Atom) (x : Atom) : Bool := ys.any fun y => decide (cmpF y x = 0)
/-- slices.ContainsFunc on facts -/
theorem c148 (xs : List Atom) (f : FuncId) (caps : Ovi.Rows) (p : Atom → Bool) (hk : xs.length < k) (hz : xs.length ≤ maxLen) (hp : ∀ x ∈ xs, C k f (.agg [.d (.int .i64 x.1), .d (.list 1 (I1 x.2))] :: caps.map fun c => .cap c 0) = bo (p x)) : C (k + 2) 148 [.d (.list 2 (A1 xs)), .d (.fn f caps)] = bo (xs.any p) := by
  rw [F148.run, F129.run, A1_len]
  have := loop_find (xs := xs) (L := fun n i => F129.L2 k (C k) n (A1 xs) f caps (xs.length : Int) i) (stop := fun _ x => p x) (hit := fun i => io (i : Int)) (fin := io (-1))
    (fun n i x hx => by
      have hi := (List.getElem?_eq_some_iff.1 hx).1
      rw [F129.L2.succ, A1_len, ite'_t (lt_t hi), ite'_t (inR_t hi), A1_0 hx, A1_1 hx]
      simp only [bindI_s, bindL_s]
      rw [next_i hi hz]
      have := hp x (List.mem_of_getElem? hx)
      simp only [List.append_eq, List.nil_append] at this ⊢
      rw [this, bB]; rfl)
    (fun n => by rw [F129.L2.succ, ite'_f (lt_f (by omega))]; rfl) k hk
  rcases this with ⟨i, x, hx, hst, e⟩ | ⟨hst, e⟩
  · rw [show F129.L2 k (C k) k (A1 xs) f caps (xs.length : Int) 0 = _ from e, iB']
    exact bo_eq (by rw [List.any_eq_true.2 ⟨x, List.mem_of_getElem? hx, hst⟩]; simp)
  · rw [show F129.L2 k (C k) k (A1 xs) f caps (xs.length : Int) 0 = _ from e, iB']
    refine bo_eq ?_
    rw [List.any_eq_false.2 (fun x hx => ?_)]
    · rfl
    · obtain ⟨i, hi⟩ := List.mem_iff_getElem?.1 hx
      simpa using hst i x hi
/-- impl.hasFact -/
theorem c150 (ys : List Atom) (x : Atom) (hk : 2000000 ≤ k) (hs : terms ys + ys.length ≤ 1048576) : C (k + 10) 150 [.d (.list 2 (A1 ys)), .agg [.d (.int .i64 x.1), .d (.list 1 (I1 x.2))]] = bo (hasF ys x) := by
  have hmax : (1048576 : Nat) ≤ maxLen := by decide
  rw [F150.run, c148 (k := k + 7) ys 173 [[.int .i64 x.1, .list 1 (I1 x.2)]] (fun y => decide (cmpF y x = 0)) (by omega) (by omega) (fun y hy => by
    have := len_terms hy
    rw [List.map_cons, List.map_nil, F173.run, F174.run, c125 (k := k) y x (by omega) (by omega), iB']
    rfl), bB]
  rfl
/-- spec.l5Place -/
theorem c144 (b : Ovi.Rows) (ys : List Atom) (x : Atom) (hk : 2000000 ≤ k) (hs : terms ys + ys.length ≤ 1048576) : ∃ q, C (k + 4) 144 [.agg [.d (.list 3 b), .d (.list 2 (A1 ys))], .agg [.d (.int .i64 x.1), .d (.list 1 (I1 x.2))]] = io q ∧ decide (q < 0) = !hasF ys x := by
  have hmax : (1048576 : Nat) ≤ maxLen := by decide
  rw [F144.run]
  have := loop_find (xs := ys) (L := fun n i => F144.L2 (k + 3) (C (k + 3)) n i b (A1 ys) x.1 (I1 x.2)) (stop := fun _ y => decide (cmpF y x = 0)) (hit := fun i => io (i : Int)) (fin := io (-1))
    (fun n i y hy => by
      have hi := (List.getElem?_eq_some_iff.1 hy).1
      have := len_terms (List.mem_of_getElem? hy)
      rw [F144.L2.succ, A1_len, ite'_t (lt_t hi), ite'_t (inR_t hi), A1_0 hy, A1_1 hy]
      simp only [bindI_s, bindL_s]
      rw [c121 (k := k + 1) y x (by omega) (by omega), iB', next_i hi (m := ys.length) (by omega)]
      by_cases h : cmpF y x = 0
      · rw [ite'_t (by simpa using h), decide_eq_true h]; rfl
      · rw [ite'_f (by simpa using h), decide_eq_false h]; rfl)
    (fun n => by rw [F144.L2.succ, A1_len, ite'_f (lt_f (by omega))]; rfl) (k + 3) (by omega)
  rcases this with ⟨i, y, hy, hst, e⟩ | ⟨hst, e⟩
  · refine ⟨(i : Int), e, ?_⟩
    have : hasF ys x = true := List.any_eq_true.2 ⟨y, List.mem_of_getElem? hy, hst⟩
    rw [this]
    exact neg_f (by omega)
  · refine ⟨-1, e, ?_⟩
    have : hasF ys x = false := List.any_eq_false.2 (fun y hy => by
      obtain ⟨i, hi⟩ := List.mem_iff_getElem?.1 hy
      simpa using hst i y hi)
    rw [this]
    rfl
/-- the same relations? both answer alike -/
theorem relEq {a b : Ovi.Rows} (ha : Fit Rl (.list 3 a)) (hb : Fit Rl (.list 3 b)) : ∃ q, ∀ k, a.length < k → C (k + 1) 172 [.d (.list 3 a), .d (.list 3 b)] = bo q ∧ C (k + 1) 143 [.d (.list 3 a), .d (.list 3 b)] = bo q := by
  have hlen := ha.len
  by_cases hl : a.length = b.length
  rotate_left
  · refine ⟨false, fun k hk => ?_⟩
    rw [F172.run, F143.run, ite'_t (by simp; omega), ite'_t (b := (a.length : Int) != (b.length : Int)) (by simp; omega)]
    exact ⟨rfl, rfl⟩
  have key : ∀ (m i : Nat), i + m = a.length → ∃ q, ∀ k n, m < n → F172.L4 k (C k) n a b (a.length : Int) (i : Int) = bo q ∧ F143.L4 k (C k) n a b (i : Int) = bo q := by
    intro m
    induction m with
    | zero =>
      intro i hm
      refine ⟨true, fun k n hn => ?_⟩
      obtain ⟨n, rfl⟩ : ∃ j, n = j + 1 := ⟨n - 1, by omega⟩
      constructor
      · rw [F172.L4.succ, ite'_f (lt_f (by omega))]; rfl
      · rw [F143.L4.succ, ite'_f (lt_f (by omega))]; rfl
    | succ m ih =>
      intro i hm
      have hi : i < a.length := by omega
      obtain ⟨row, hr, hfr, _⟩ := ha.row hi
      obtain ⟨d0, r0, rfl, f0, h1⟩ := Fits.cons hfr
      obtain ⟨d1, r1, rfl, f1, h1⟩ := Fits.cons h1
      obtain ⟨d2, r2, rfl, f2, h1⟩ := Fits.cons h1
      obtain rfl := Fits.nil h1
      obtain ⟨s, rfl, _⟩ := f0.str
      obtain ⟨x, rfl, _⟩ := f1.int
      obtain ⟨y, rfl⟩ := f2.bool
      obtain ⟨row', hr', hfr', _⟩ := hb.row (i := i) (by omega)
      obtain ⟨e0, q0, rfl, g0, h1'⟩ := Fits.cons hfr'
      obtain ⟨e1, q1, rfl, g1, h1'⟩ := Fits.cons h1'
      obtain ⟨e2, q2, rfl, g2, h1'⟩ := Fits.cons h1'
      obtain rfl := Fits.nil h1'
      obtain ⟨s', rfl, _⟩ := g0.str
      obtain ⟨x', rfl, _⟩ := g1.int
      obtain ⟨y', rfl⟩ := g2.bool
      obtain ⟨q, ih⟩ := ih (i + 1) (by omega)
      refine ⟨cond (!(s == s' && (x == x' && (y == y' && true)))) false q, fun k n hn => ?_⟩
      obtain ⟨n, rfl⟩ : ∃ j, n = j + 1 := ⟨n - 1, by omega⟩
      obtain ⟨i1, i2⟩ := ih k n (by omega)
      rw [F172.L4.succ, F143.L4.succ, ite'_t (lt_t hi), ite'_t (inR_t hi), ite'_t (lt_t hi), ite'_t (inR_t hi)]
      simp only [Int.toNat_natCast, cellI_at hr, cellS_at hr, cellB_at hr, cellI_at hr', cellS_at hr', cellB_at hr', List.getElem?_cons_zero, List.getElem?_cons_succ, Option.bind_some, asI_s, asS_s, asB_s, bindI_s, bindS_s, bindB_s]
      rw [show inR (i : Int) b.length = true from inR_t (by omega), next_i hi hlen, i1, i2]
      cases (!(s == s' && (x == x' && (y == y' && true)))) <;> exact ⟨rfl, rfl⟩
  obtain ⟨q, hq⟩ := key a.length 0 (by omega)
  refine ⟨q, fun k hk => ?_⟩
  rw [F172.run, F143.run, ite'_f (by simp [hl]), ite'_f (b := (a.length : Int) != (b.length : Int)) (by simp [hl])]
  exact hq k k hk
/-- both IsHomomorphism answer alike -/
theorem homB {a b : Ovi.Rows} (ha : Fit Rl (.list 3 a)) (hb : Fit Rl (.list 3 b)) (xs ys : List Atom) (ks vs : List Int) (hX : ∀ x ∈ xs, ∀ z ∈ x.2, inI z) (hY : ∀ x ∈ ys, ∀ z ∈ x.2, inI z) (hV : ∀ v ∈ vs, inI v)
    (hs : terms xs + xs.length ≤ 1048576) (ht : terms ys + ys.length ≤ 1048576) (h1 : a.length ≤ 1048576) (h2 : b.length ≤ 1048576) (h3 : ks.length ≤ 1048576) (h4 : vs.length ≤ 1048576) :
    ∃ q, ∀ k, 2000000 ≤ k → C (k + 14) 97 [.agg [.d (.list 3 a), .d (.list 2 (A1 xs))], .agg [.d (.list 3 b), .d (.list 2 (A1 ys))], .agg [.d (.list 1 (I1 ks)), .d (.list 1 (I1 vs))]] = bo q ∧
      C (k + 14) 96 [.agg [.d (.list 3 a), .d (.list 2 (A1 xs))], .agg [.d (.list 3 b), .d (.list 2 (A1 ys))], .agg [.d (.list 1 (I1 ks)), .d (.list 1 (I1 vs))]] = bo q := by
  have hmax : (1048576 : Nat) ≤ maxLen := by decide
  obtain ⟨va, _, hva⟩ := instB ha xs hX hs h1
  obtain ⟨vb, _, hvb⟩ := instB hb ys hY ht h2
  obtain ⟨re, hre⟩ := relEq ha hb
  obtain ⟨sv, hsv1, hsv⟩ := subB ks vs hV h3 h4
  have hcmp : (cmpI ks (nulls (vals xs)) != 0) = !decide (ks = nulls (vals xs)) := by
    by_cases h : ks = nulls (vals xs)
    · rw [decide_eq_true h, (cmpI_zero' _ _).2 h]; rfl
    · rw [decide_eq_false h]
      simpa using fun hc => h ((cmpI_zero' _ _).1 hc)
  -- the tests ahead of the facts
  have pre : ∀ k, 2000000 ≤ k → C (k + 13) 146 [.agg [.d (.list 3 a), .d (.list 2 (A1 xs))], .agg [.d (.list 3 b), .d (.list 2 (A1 ys))]] = bo (va && (vb && re)) := by
    intro k hk
    rw [F146.run, (hva (k + 4) (by omega)).1, bB, (hvb (k + 4) (by omega)).1, bB, (hre (k + 11) (by omega)).1, bB]
    cases va <;> cases vb <;> rfl
  cases hc : (va && (vb && re)) && (sv && decide (ks = nulls (vals xs))) with
  | false =>
    refine ⟨false, fun k hk => ?_⟩
    constructor
    · rw [F97.run, pre k hk, bB, (hsv (k + 9) (by omega)).1, bB, c136 (k := k + 9) a xs hX (by omega) hs]
      simp only [bindR_s, resO_s, bindL_s]
      rw [c57 (k := k + 12) ks _ (by omega) (by omega), bB]
      cases h1 : (va && (vb && re)) with
      | false => rfl
      | true =>
        cases h2 : sv with
        | false => rfl
        | true =>
          rw [h1, h2] at hc
          rw [Bool.true_and, Bool.true_and] at hc
          rw [hc]
          rfl
    · rw [F96.run, (hva (k + 5) (by omega)).2, bB, (hvb (k + 5) (by omega)).2, bB, (hsv (k + 9) (by omega)).2, bB, (hre (k + 12) (by omega)).2, bB, c91 (k := k + 9) a xs hX (by omega) hs]
      simp only [bindR_s, resL_d, bindL_s]
      rw [c54 (k := k + 12) ks _ (by omega) (by omega), iB', hcmp]
      cases va with
      | false => rfl
      | true =>
        cases vb with
        | false => rfl
        | true =>
          cases sv with
          | false => rfl
          | true =>
            cases re with
            | false => rfl
            | true =>
              simp only [Bool.true_and] at hc
              rw [hc]
              rfl
  | true =>
    simp only [Bool.and_eq_true, decide_eq_true_eq] at hc
    obtain ⟨⟨rfl, rfl, rfl⟩, rfl, hks⟩ := hc
    obtain ⟨hkl, hkr⟩ := hsv1 rfl
    obtain ⟨ap, hap⟩ : ∃ ap, Ap ks vs ap := by
      have : ∀ v : Int, ∃ r, inI v → ∀ k, 2000000 ≤ k → C (k + 5) 175 [.agg [.d (.list 1 (I1 ks)), .d (.list 1 (I1 vs))], .d (.int .i64 v)] = io r ∧ C (k + 5) 171 [.agg [.d (.list 1 (I1 ks)), .d (.list 1 (I1 vs))], .d (.int .i64 v)] = io r := by
        intro v
        by_cases h : inI v
        · obtain ⟨r, hr⟩ := appB ks vs h3 hkl hkr hsv v h
          exact ⟨r, fun _ => hr⟩
        · exact ⟨0, fun h' => absurd h' h⟩
      obtain ⟨ap, h⟩ := Classical.axiomOfChoice this
      exact ⟨ap, fun v hv => h v hv⟩
    refine ⟨xs.all fun x => hasF ys (mapF ap x), fun k hk => ?_⟩
    constructor
    · rw [F97.run, pre k hk, bB, (hsv (k + 9) (by omega)).1, bB, c136 (k := k + 9) a xs hX (by omega) hs]
      simp only [bindR_s, resO_s, bindL_s]
      rw [c57 (k := k + 12) ks _ (by omega) (by omega), bB, decide_eq_true hks]
      rw [c148 (k := k + 11) xs 149 [[.list 3 b, .list 2 (A1 ys)], [.list 1 (I1 ks), .list 1 (I1 vs)]] (fun x => !hasF ys (mapF ap x)) (by omega) (by omega) (fun x hx => by
        have := len_terms hx
        rw [List.map_cons, List.map_cons, List.map_nil, F149.run, c151 (k := k + 4) hap x (hX x hx) (by omega) (by omega)]
        simp only [bindR_s, fact_0, fact_1, bindI_s, bindL_s]
        have e150 := c150 (k := k) ys (mapF ap x) hk ht
        simp only [mapF] at e150 ⊢
        rw [e150, bB]
        rfl), bB, any_not]
      rfl
    · rw [F96.run, (hva (k + 5) (by omega)).2, bB, (hvb (k + 5) (by omega)).2, bB, (hsv (k + 9) (by omega)).2, bB, (hre (k + 12) (by omega)).2, bB, c91 (k := k + 9) a xs hX (by omega) hs]
      simp only [bindR_s, resL_d, bindL_s]
      rw [c54 (k := k + 12) ks _ (by omega) (by omega), iB', hcmp, decide_eq_true hks]
      have := loop_any (xs := xs) (L := fun n i => F96.L4 (k + 13) (C (k + 13)) n i a (A1 xs) b (A1 ys) (I1 ks) (I1 vs)) (stop := fun x => !hasF ys (mapF ap x)) (hit := bo false) (fin := bo true)
        (fun n i x hx => by
          have hi := (List.getElem?_eq_some_iff.1 hx).1
          have hxm := List.mem_of_getElem? hx
          have := len_terms hxm
          rw [F96.L4.succ, A1_len, ite'_t (lt_t hi), ite'_t (inR_t hi), A1_0 hx, A1_1 hx]
          simp only [bindI_s, bindL_s]
          rw [c145 (k := k + 7) hap x (hX x hxm) (by omega) (by omega)]
          simp only [bindR_s, fact_0, fact_1, bindI_s, bindL_s]
          obtain ⟨q, e, hq⟩ := c144 (k := k + 9) b ys (mapF ap x) (by omega) ht
          show (bindR (C (k + 13) 144 [.agg [.d (.list 3 b), .d (.list 2 (A1 ys))], .agg [.d (.int .i64 (mapF ap x).1), .d (.list 1 (I1 (mapF ap x).2))]]) fun r => bindI (resI .i64 1 false 1 r 0 0) _) = _
          rw [e, iB', hq, next_i hi (m := xs.length) (by omega)]
          rfl)
        (fun n => by rw [F96.L4.succ, A1_len, ite'_f (lt_f (by omega))]; rfl) (k + 13) (by omega)
      simp only [ite'_nt]
      rw [show F96.L4 (k + 13) (C (k + 13)) (k + 13) 0 a (A1 xs) b (A1 ys) (I1 ks) (I1 vs) = _ from this, ← any_not]
      cases xs.any (fun x => !hasF ys (mapF ap x)) <;> rfl
end Go.Proofs.Ytekcjghbfbfmpaa.Q

/-! Jc -/
namespace Go.Proofs.Ytekcjghbfbfmpaa.Q
open Go Ovi
variable {k : Nat}
def isoBad (vs : List Int) (i : Nat) (v : Int) : Bool := !decide (v < 0) || decide (v ∈ vs.take i)
/-- the values are nulls, each once: impl -/
theorem l44 (ks vs : List Int) (hk : 2000000 ≤ k) (h4 : vs.length ≤ 1048576) : ∃ st : Bool, (st = true ↔ ∃ (i : Nat) (v : Int), vs[i]? = some v ∧ isoBad vs i v = true) ∧ F44.L4 (k + 14) (C (k + 14)) (k + 14) (I1 vs) (vs.length : Int) 0 (I1 ks) (I1 vs) = bo (!st) := by
  have hmax : (1048576 : Nat) ≤ maxLen := by decide
  have := loop_find (xs := vs) (L := fun n i => F44.L4 (k + 14) (C (k + 14)) n (I1 vs) (vs.length : Int) i (I1 ks) (I1 vs)) (stop := isoBad vs) (hit := fun _ => bo false) (fin := bo true)
    (fun n i v hv => by
      have hi := (List.getElem?_eq_some_iff.1 hv).1
      have htk : (I1 vs).take ((i : Int)).toNat = I1 (vs.take i) := by rw [Int.toNat_natCast]; simp [I1, List.map_take]
      rw [F44.L4.succ, ite'_t (lt_t hi), I1_len, ite'_t (inR_t hi), I1_c' hv, bindI_s, F98.run]
      simp only [bindR_s, resB_s, bindB_s]
      unfold isoBad
      cases decide (v < 0) with
      | false => rfl
      | true =>
        rw [ite'_nt, ite'_t (by simp [inS]; omega), htk, c71 (k := k + 12) (vs.take i) v (by simp; omega) (by simp; omega), bB, next_i hi (m := vs.length) (by omega)]
        rfl)
    (fun n => by rw [F44.L4.succ, ite'_f (lt_f (by omega))]; rfl) (k + 14) (by omega)
  rcases this with ⟨i, v, hv, hst, e⟩ | ⟨h, e⟩
  · exact ⟨true, ⟨fun _ => ⟨i, v, hv, hst⟩, fun _ => rfl⟩, e⟩
  · exact ⟨false, ⟨fun h' => (by cases h'), fun ⟨i, v, hv, hst⟩ => (by rw [h i v hv] at hst; cases hst)⟩, e⟩
/-- spec -/
theorem l42 (a b : Ovi.Rows) (xs ys : List Atom) (ks vs : List Int) (hk : 2000000 ≤ k) (h4 : vs.length ≤ 1048576) : ∃ st : Bool, (st = true ↔ ∃ (i : Nat) (v : Int), vs[i]? = some v ∧ isoBad vs i v = true) ∧ F42.L4 (k + 14) (C (k + 14)) (k + 14) 0 a (A1 xs) b (A1 ys) (I1 ks) (I1 vs) = cond st (bo false) (bo ((xs.length : Int) == (ys.length : Int))) := by
  have hmax : (1048576 : Nat) ≤ maxLen := by decide
  have inner : ∀ (n i : Nat) (v : Int), vs[i]? = some v → F42.L9 (k + 14) (C (k + 14)) n (k + 14) (i : Int) 0 a (A1 xs) b (A1 ys) (I1 ks) (I1 vs) = cond ((vs.take i).any fun y => decide (y = v)) (bo false) (F42.L4 (k + 14) (C (k + 14)) n ((i + 1 : Nat) : Int) a (A1 xs) b (A1 ys) (I1 ks) (I1 vs)) := by
    intro n i v hv
    have hi := (List.getElem?_eq_some_iff.1 hv).1
    have htl : (vs.take i).length = i := by simp; omega
    exact loop_any (xs := vs.take i) (L := fun m j => F42.L9 (k + 14) (C (k + 14)) n m (i : Int) j a (A1 xs) b (A1 ys) (I1 ks) (I1 vs)) (stop := fun y => decide (y = v)) (hit := bo false)
      (fun m j y hy => by
        have hj := (List.getElem?_eq_some_iff.1 hy).1
        rw [htl] at hj
        rw [List.getElem?_take_of_lt hj] at hy
        rw [F42.L9.succ, ite'_t (lt_t hj), I1_len, ite'_t (inR_t (by omega)), I1_c' hy, bindI_s, ite'_t (inR_t hi), I1_c' hv, bindI_s, next_i hj (m := i) (by omega)]
        by_cases h : y = v
        · rw [ite'_t (by simpa using h), decide_eq_true h]; rfl
        · rw [ite'_f (by simpa using h), decide_eq_false h]; rfl)
      (fun m => by rw [htl, F42.L9.succ, ite'_f (lt_f (by omega)), next_i hi (m := vs.length) (by omega)]) (k + 14) (by omega)
  have := loop_find (xs := vs) (L := fun n i => F42.L4 (k + 14) (C (k + 14)) n i a (A1 xs) b (A1 ys) (I1 ks) (I1 vs)) (stop := isoBad vs) (hit := fun _ => bo false) (fin := bo ((xs.length : Int) == (ys.length : Int)))
    (fun n i v hv => by
      have hi := (List.getElem?_eq_some_iff.1 hv).1
      have hmem : ((vs.take i).any fun y => decide (y = v)) = decide (v ∈ vs.take i) := by
        rw [Bool.eq_iff_iff, List.any_eq_true]
        simp only [decide_eq_true_eq]
        exact ⟨fun ⟨y, hy, e⟩ => e ▸ hy, fun h => ⟨v, h, rfl⟩⟩
      rw [F42.L4.succ, I1_len, ite'_t (lt_t hi), ite'_t (inR_t hi), I1_c' hv, bindI_s, inner n i v hv, hmem]
      unfold isoBad
      by_cases h : v < 0
      · rw [ite'_f (by simp; omega), decide_eq_true h]; rfl
      · rw [ite'_t (by simp; omega), decide_eq_false h]; rfl)
    (fun n => by rw [F42.L4.succ, I1_len, ite'_f (lt_f (by omega)), A1_len, A1_len]; rfl) (k + 14) (by omega)
  rcases this with ⟨i, v, hv, hst, e⟩ | ⟨h, e⟩
  · exact ⟨true, ⟨fun _ => ⟨i, v, hv, hst⟩, fun _ => rfl⟩, e⟩
  · exact ⟨false, ⟨fun h' => (by cases h'), fun ⟨i, v, hv, hst⟩ => (by rw [h i v hv] at hst; cases hst)⟩, e⟩
/-- the law of IsIsomorphism -/
theorem law8 (hk : 3000000 ≤ k) {a0 a1 b0 b1 s0 s1 : Ovi.Rows} (h1 : Fit Rl (.list 3 a0)) (h2 : Fit At (.list 2 a1)) (h3 : Fit Rl (.list 3 b0)) (h4 : Fit At (.list 2 b1)) (h5 : Fit In1 (.list 1 s0)) (h6 : Fit In1 (.list 1 s1)) :
    C k 8 [.agg [.d (.list 3 a0), .d (.list 2 a1)], .agg [.d (.list 3 b0), .d (.list 2 b1)], .agg [.d (.list 1 s0), .d (.list 1 s1)]] = bo true := by
  obtain ⟨k, rfl⟩ : ∃ j, k = j + 16 := ⟨k - 16, by omega⟩
  have hmax : (1048576 : Nat) ≤ maxLen := by decide
  rw [F8.run, c26 (k := k + 15) (by omega) h1 h2 (by omega) (by omega)]
  simp only [bindR_s, resI_s, bindI_s]
  rcases szT_cases 1048576 (szC [.list 3 a0, .list 2 a1]) with ⟨q1, e1⟩ | ⟨q1, e1⟩ <;> rw [e1]
  rotate_left
  · rw [ite'_t neg_t]; rfl
  rw [ite'_f (neg_f (by omega)), c26 (k := k + 15) (by omega) h3 h4 (by omega) (by omega)]
  simp only [bindR_s, resI_s, bindI_s]
  rcases szT_cases (1048576 - ((szC [.list 3 a0, .list 2 a1] : Nat) : Int)) (szC [.list 3 b0, .list 2 b1]) with ⟨q2, e2⟩ | ⟨q2, e2⟩ <;> rw [e2]
  rotate_left
  · rw [ite'_t neg_t]; rfl
  rw [ite'_f (neg_f (by omega)), c41 (k := k + 15) (by omega) h5 h6 (by omega) (by omega)]
  simp only [bindR_s, resI_s, bindI_s]
  rcases szT_cases (1048576 - ((szC [.list 3 a0, .list 2 a1] : Nat) : Int) - ((szC [.list 3 b0, .list 2 b1] : Nat) : Int)) (szC [.list 1 s0, .list 1 s1]) with ⟨q3, e3⟩ | ⟨q3, e3⟩ <;> rw [e3]
  rotate_left
  · rw [ite'_t neg_t]; rfl
  have p1 := q1
  have p2 := q2
  have p3 := q3
  simp only [szC] at p1 p2 p3
  have z1 : szD (.list 3 a0) ≤ 1048576 := by omega
  have z2 : szD (.list 2 a1) ≤ 1048576 := by omega
  have z3 : szD (.list 3 b0) ≤ 1048576 := by omega
  have z4 : szD (.list 2 b1) ≤ 1048576 := by omega
  have z5 : szD (.list 1 s0) ≤ 1048576 := by omega
  have z6 : szD (.list 1 s1) ≤ 1048576 := by omega
  rw [ite'_f (neg_f (by omega)), c28 (k := k + 15) (by omega) h1 h2 z1 z2, c28 (k := k + 15) (by omega) h3 h4 z3 z4, c43 (k := k + 15) (by omega) h5 h6 z5 z6]
  simp only [bindR_s, F28x0, F28x1, F43x0, F43x1, bindL_s]
  obtain ⟨xs, rfl, hX⟩ := h2.atoms'
  obtain ⟨ys, rfl, hY⟩ := h4.atoms'
  obtain ⟨ks, rfl, _⟩ := h5.ints'
  obtain ⟨vs, rfl, hV⟩ := h6.ints'
  have y2 := z2
  have y4 := z4
  have y5 := z5
  have y6 := z6
  rw [sz_atoms] at y2 y4
  rw [sz_ints] at y5 y6
  obtain ⟨hq, hh⟩ := homB h1 h3 xs ys ks vs (fun x hx => (hX x hx).2) (fun x hx => (hY x hx).2) hV (by omega) (by omega) (Nat.le_trans sz_rels z1) (Nat.le_trans sz_rels z3) y5 y6
  obtain ⟨g97, g96⟩ := hh k (by omega)
  obtain ⟨st, hst, f44⟩ := l44 (k := k) ks vs (by omega) y6
  obtain ⟨st', hst', f42⟩ := l42 (k := k) a0 b0 xs ys ks vs (by omega) y6
  have hss : st' = st := by rw [Bool.eq_iff_iff, hst', hst]
  subst hss
  have e42 : C (k + 15) 42 [.agg [.d (.list 3 a0), .d (.list 2 (A1 xs))], .agg [.d (.list 3 b0), .d (.list 2 (A1 ys))], .agg [.d (.list 1 (I1 ks)), .d (.list 1 (I1 vs))]] = bo (hq && (((xs.length : Int) == (ys.length : Int)) && !st')) := by
    rw [F42.run, g96, bB, f42]
    cases hq <;> cases st' <;> cases ((xs.length : Int) == (ys.length : Int)) <;> rfl
  have e44 : C (k + 15) 44 [.agg [.d (.list 3 a0), .d (.list 2 (A1 xs))], .agg [.d (.list 3 b0), .d (.list 2 (A1 ys))], .agg [.d (.list 1 (I1 ks)), .d (.list 1 (I1 vs))]] = bo (hq && (((xs.length : Int) == (ys.length : Int)) && !st')) := by
    rw [F44.run, g97, bB, A1_len, A1_len, I1_len, f44]
    cases hq with
    | false => rfl
    | true =>
      rw [ite'_nt]
      by_cases h : (xs.length : Int) = (ys.length : Int)
      · rw [ite'_f (by simp; omega), show ((xs.length : Int) == (ys.length : Int)) = true by simp; omega]; rfl
      · rw [ite'_t (by simp; omega), show ((xs.length : Int) == (ys.length : Int)) = false by simp; omega]; rfl
  rw [e42, bB, e44, bB, ite'_f (by simp), c31 (k := k + 15) (by omega) h1 h2 z1 z2, c31 (k := k + 15) (by omega) h3 h4 z3 z4, c45 (k := k + 15) (by omega) h5 h6 z5 z6]
  rfl
end Go.Proofs.Ytekcjghbfbfmpaa.Q

/-! E8 -/
namespace Go.Proofs.Ytekcjghbfbfmpaa.Q
open Go Ovi Go.ChangeShapes Go.WideShapes Go.ChangeAt Go.RowKit
theorem own : ownKnob Try.prog.godebug = none := by kernel_rfl
theorem laidOut : laidOutB Try.prog = true := by kernel_rfl
def ty8 : List (Bool × List Ty) := [(true, [.list [.str, .int .i64, .bool], .list [.int .i64, .list [.int .i64]]]), (true, [.list [.str, .int .i64, .bool], .list [.int .i64, .list [.int .i64]]]), (true, [.list [.int .i64], .list [.int .i64]])]
theorem tys8 : parTys Try.prog Try.f8.params.toList = some ty8 := by kernel_rfl
theorem readable8 : readable Try.prog Try.f8.params.toList = true := by kernel_rfl
theorem law_args8 {av : List AV} (h : ArgsFit ty8 av) : C 3000000 8 av = some yes := by
  match av, h with
  | [p0, p1, p2], h =>
    simp only [ty8, ArgsFit, and_true] at h
    obtain ⟨g0, g1, g2⟩ := h
    cases p0 <;> simp only [ArgFit] at g0
    obtain ⟨ds0, rfl, g0⟩ := g0
    obtain ⟨_, _, rfl, e0_0, g0⟩ := Fits.cons g0
    obtain ⟨_, _, rfl, e0_1, g0⟩ := Fits.cons g0
    obtain rfl := Fits.nil g0
    obtain ⟨_, rfl, e0_0⟩ := e0_0.list (n := 3) rfl
    obtain ⟨_, rfl, e0_1⟩ := e0_1.list (n := 2) rfl
    cases p1 <;> simp only [ArgFit] at g1
    obtain ⟨ds1, rfl, g1⟩ := g1
    obtain ⟨_, _, rfl, e1_0, g1⟩ := Fits.cons g1
    obtain ⟨_, _, rfl, e1_1, g1⟩ := Fits.cons g1
    obtain rfl := Fits.nil g1
    obtain ⟨_, rfl, e1_0⟩ := e1_0.list (n := 3) rfl
    obtain ⟨_, rfl, e1_1⟩ := e1_1.list (n := 2) rfl
    cases p2 <;> simp only [ArgFit] at g2
    obtain ⟨ds2, rfl, g2⟩ := g2
    obtain ⟨_, _, rfl, e2_0, g2⟩ := Fits.cons g2
    obtain ⟨_, _, rfl, e2_1, g2⟩ := Fits.cons g2
    obtain rfl := Fits.nil g2
    obtain ⟨_, rfl, e2_0⟩ := e2_0.list (n := 1) rfl
    obtain ⟨_, rfl, e2_1⟩ := e2_1.list (n := 1) rfl
    exact law8 (Nat.le_refl _) e0_0 e0_1 e1_0 e1_1 e2_0 e2_1
set_option maxRecDepth 100000 in
theorem lifted8 (os : Os) (started : os.Started) (H : Type) (enc : TypeId × Value → H) :
    ReturnsInHanded {} Try.checked os 8 .any (Rows.fnExactIsIsomorphismSpec.pre6 enc Try.prog Try.f8 Rows.fnExactIsIsomorphismRow.domain false) (Rows.fnExactIsIsomorphismSpec.post enc Try.prog Try.f8 false true false false) := by
  refine returnsInHanded_of_change (C := Try.checked) own started (by kernel_rfl) Try.func8
    (ChangeSpec.witness6 (enc := enc) (C := Try.checked) false ⟨#[], #[.agg #[.slice none 0 0, .slice none 0 0], .agg #[.slice none 0 0, .slice none 0 0], .agg #[.slice none 0 0, .slice none 0 0]], []⟩ 8 (by kernel_rfl) (by kernel_rfl) (by kernel_rfl) (by kernel_rfl)) ?_
  intro W base args ds gs before hval0 hW hcnd _
  have hval : ∀ (j : Nat) t v, Try.f8.params[j]? = some t → args[j]? = some v → Value.okWide Try.prog W .any base t v := hval0
  have hW' := hW
  obtain ⟨p, q, hA0, hV, rfl, hfz, hnd⟩ := hW
  have hA : DataW.TrodAll enc Try.prog W 0 (fun _ => true) true Try.f8.params.toList args.toList ds p := hA0
  obtain ⟨rfl, rfl⟩ := trodVars_none hV
  obtain ⟨av, hfit, hlen, hac⟩ := args_in hA (base := base) (fun j t v h1 h2 => hval j t v (by simpa using h1) (by simpa using h2)) tys8
  refine (calls_yes (sound 3000000) (law_args8 hfit) (vs := args) ⟨by simpa using hlen, fun j a ha => by
    obtain ⟨u, hu, hc⟩ := hac j a ha
    exact ⟨u, by simpa using hu, hc⟩⟩).mono fun e W' ⟨he, bel⟩ => ?_
  subst he
  have hk := kept_all laidOut bel readable8 hA
  obtain ⟨d0, d1, d2, rfl⟩ : ∃ d0 d1 d2, ds = [d0, d1, d2] := by
    obtain ⟨v0, vs0, d0, ds0, p0, q0, rg0, rfl, rfl, h0, r0⟩ := trodAll_cons hA
    obtain ⟨v1, vs1, d1, ds1, p1, q1, rg1, rfl, rfl, h1, r1⟩ := trodAll_cons r0
    obtain ⟨v2, vs2, d2, ds2, p2, q2, rg2, rfl, rfl, h2, r2⟩ := trodAll_cons r1
    obtain ⟨rfl, rfl, rfl⟩ := trodAll_nil r2
    exact ⟨_, _, _, rfl⟩
  exact ⟨_, rfl, _, _, _, [], _, [], hW', trodAll_mk1 (shut_bool (show Try.prog.underlying 4 = some .bool by kernel_rfl) _), hk, rfl, bel.frame _, fun h => by cases h⟩
theorem over8 : Rows.fnExactIsIsomorphismRow.holds Try.pinned (OpenSpec.ofChange Rows.fnExactIsIsomorphismSpec) :=
  OpenClaim.holds_of_wide 8 Try.f8 rfl rfl rfl rfl rfl rfl rfl ⟨rfl, rfl, rfl, rfl, rfl⟩ rfl rfl rfl rfl rfl (by kernel_rfl) Try.func8 (by kernel_rfl)
    (of_decide_eq_true (by kernel_rfl)) (by unfold Func.isWrapper; first | (rw [if_pos (by decide +kernel)]; kernel_rfl) | (rw [if_neg (by decide +kernel)]; exact ⟨rfl, rfl⟩))
    (fun os started H enc _ => lifted8 os started H enc)
end Go.Proofs.Ytekcjghbfbfmpaa.Q
namespace Go.Proofs.Ytekcjghbfbfmpaa
theorem fnExactIsIsomorphism_holds : Rows.FnExactIsIsomorphismSaid := Q.over8
#print axioms fnExactIsIsomorphism_holds
end Go.Proofs.Ytekcjghbfbfmpaa

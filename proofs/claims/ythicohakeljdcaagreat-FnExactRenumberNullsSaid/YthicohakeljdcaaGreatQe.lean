/-
Towards the law: a machine that runs the program's own code on plain data, its soundness, the library by its contracts, and what the functions compute: part 5 (YIa YJa YHb YIb YLa YMa YMb YMc YKa YMd YNa YNb YNc YNd YNe YNf YNg YNh YWa Ixs YSh YCm YEq YCa YCb YSb). No condition.
-/
import Derived.Test.YthicohakeljdcaaGreatQd
import Derived.Test.YthicohakeljdcaaGreatProg
import Derived.Test.YthicohakeljdcaaGreatQc
import Derived.Shelf.RegionOpenPlain
import Derived.Deep.LoopGhost
import Derived.WalkKit
import Derived.KernelRfl
import Derived.Shelf.SlSortCmp.KitK
import Derived.Shelf.Small.Wraps
import Derived.Shelf.Sort.Plain
import Derived.Ground.Names2Prog
import Derived.Shelf.Slices.Clone
import Derived.Shelf.Slices.CompactI
import Derived.Ground.SlgnProg
import Derived.Shelf.SlicesE.Clone
import Derived.Ground.SlsfProg
import Derived.Shelf.SlSortCmp.WholeK
import Derived.Lib.Walk
import Derived.Shelf.GgSortFunc.Compose
import Derived.Sort.WalkA
import Derived.Sort.WalkC
import Derived.Sort.WalkB12
import Derived.Deep.QuietTactic
import Derived.BigQuiet
import Derived.BigRegion
import Derived.Shelf.SlicesE.Kit
set_option linter.unusedVariables false
set_option linter.unusedSimpArgs false
/-! YIa -/
namespace Go.Proofs.YthicohakeljdcaaGreat.Q
open Go Ovi
variable {k : Nat}
/-- what the atoms hold: z is a variable of theirs -/
def isVar (xs : List Atom) (z : Int) : Prop := 0 ≤ z ∧ ∃ x ∈ xs, z ∈ x.2
def terms (xs : List Atom) : Nat := (xs.map fun x => x.2.length).sum
theorem terms_at {xs : List Atom} {i : Nat} {x : Atom} (h : xs[i]? = some x) : terms (xs.take i) + x.2.length = terms (xs.take (i + 1)) := by
  obtain ⟨hi, e⟩ := List.getElem?_eq_some_iff.1 h
  unfold terms
  rw [List.take_succ_eq_append_getElem hi, e]
  simp
theorem terms_le (xs : List Atom) (i : Nat) : terms (xs.take i) ≤ terms xs := by
  have : terms xs = terms (xs.take i) + terms (xs.drop i) := by
    unfold terms
    rw [← List.sum_append, ← List.map_append, List.take_append_drop]
  omega
theorem isVar_take {xs : List Atom} {i : Nat} {x : Atom} (h : xs[i]? = some x) (z : Int) : isVar (xs.take (i + 1)) z ↔ isVar (xs.take i) z ∨ (0 ≤ z ∧ z ∈ x.2) := by
  obtain ⟨hi, e⟩ := List.getElem?_eq_some_iff.1 h
  unfold isVar
  rw [List.take_succ_eq_append_getElem hi, e]
  simp only [List.mem_append, List.mem_singleton]
  constructor
  · rintro ⟨h0, y, hy | rfl, hz⟩
    · exact .inl ⟨h0, y, hy, hz⟩
    · exact .inr ⟨h0, hz⟩
  · rintro (⟨h0, y, hy, hz⟩ | ⟨h0, hz⟩)
    · exact ⟨h0, y, .inl hy, hz⟩
    · exact ⟨h0, x, .inr rfl, hz⟩
/-- impl.Variables -/
theorem c161 (xs : List Atom) (hk : terms xs + xs.length < k) (hs : terms xs + xs.length ≤ 1048576) : ∃ vs, C (k + 1) 161 [.d (.list 2 (A1 xs))] = some [(false, [.row 3 1 (I1 vs)])] ∧ (∀ z, z ∈ vs ↔ isVar xs z) ∧ vs.length ≤ terms xs := by
  rw [F161.run, A1_len]
  have hmax : (1048576 : Nat) ≤ maxLen := by decide
  -- the inner loop
  have inner : ∀ (i : Nat) (x : Atom), xs[i]? = some x → ∀ (m j n k3 : Nat) (acc : List Int), j + m = x.2.length → m < n → acc.length ≤ terms (xs.take i) + j → (∀ z, z ∈ acc ↔ isVar (xs.take i) z ∨ (0 ≤ z ∧ z ∈ x.2.take j)) →
      ∃ acc', F161.L6 k (C k) k3 n (A1 xs) (xs.length : Int) (i : Int) (I1 x.2) (x.2.length : Int) (j : Int) (I1 acc) = F161.L3 k (C k) k3 (A1 xs) (xs.length : Int) ((i + 1 : Nat) : Int) (I1 acc') ∧ acc'.length ≤ terms (xs.take (i + 1)) ∧ ∀ z, z ∈ acc' ↔ isVar (xs.take (i + 1)) z := by
    intro i x hx m
    have hi := (List.getElem?_eq_some_iff.1 hx).1
    have hta := terms_at hx
    have htl := terms_le xs (i + 1)
    induction m with
    | zero =>
      intro j n k3 acc hm hn ha hmem
      obtain ⟨n, rfl⟩ : ∃ j, n = j + 1 := ⟨n - 1, by omega⟩
      obtain rfl : j = x.2.length := by omega
      refine ⟨acc, ?_, by omega, fun z => ?_⟩
      · rw [F161.L6.succ, ite'_f (lt_f (by omega)), next_i hi (m := xs.length) (by omega)]
      · rw [hmem z, isVar_take hx, List.take_length]
    | succ m ih =>
      intro j n k3 acc hm hn ha hmem
      obtain ⟨n, rfl⟩ : ∃ j, n = j + 1 := ⟨n - 1, by omega⟩
      have hj : j < x.2.length := by omega
      have hz := List.getElem?_eq_getElem hj
      rw [F161.L6.succ, ite'_t (lt_t hj), I1_len, ite'_t (inR_t hj)]
      simp only [Int.toNat_natCast, cellI_at (I1_get' hz), List.getElem?_cons_zero, Option.bind_some, asI_s, bindI_s]
      rw [next_i hj (m := x.2.length) (by omega)]
      have htk : ∀ z, z ∈ x.2.take (j + 1) ↔ z ∈ x.2.take j ∨ z = x.2[j] := by
        intro z
        rw [List.take_succ_eq_append_getElem hj]
        simp only [List.mem_append, List.mem_singleton]
      by_cases h0 : 0 ≤ x.2[j]
      · rw [ite'_t (by simpa using h0), ite'_t (fits_t (by simp [I1_len]; omega))]
        have e : I1 acc ++ [[.int .i64 x.2[j]]] = I1 (acc ++ [x.2[j]]) := by simp [I1]
        rw [e]
        refine ih (j + 1) n k3 _ (by omega) (by omega) (by simp; omega) (fun z => ?_)
        rw [List.mem_append, List.mem_singleton, hmem z, htk z]
        constructor
        · rintro ((h | h) | h)
          · exact .inl h
          · exact .inr ⟨h.1, .inl h.2⟩
          · exact .inr ⟨h ▸ h0, .inr h⟩
        · rintro (h | ⟨h1, h | h⟩)
          · exact .inl (.inl h)
          · exact .inl (.inr ⟨h1, h⟩)
          · exact .inr h
      · rw [ite'_f (by simpa using h0)]
        refine ih (j + 1) n k3 _ (by omega) (by omega) (by omega) (fun z => ?_)
        rw [hmem z, htk z]
        constructor
        · rintro (h | h)
          · exact .inl h
          · exact .inr ⟨h.1, .inl h.2⟩
        · rintro (h | ⟨h1, h | h⟩)
          · exact .inl h
          · exact .inr ⟨h1, h⟩
          · exact absurd (h ▸ h1) h0
  have outer : ∀ (m i n : Nat) (acc : List Int), i + m = xs.length → m < n → acc.length ≤ terms (xs.take i) → (∀ z, z ∈ acc ↔ isVar (xs.take i) z) →
      ∃ vs, F161.L3 k (C k) n (A1 xs) (xs.length : Int) (i : Int) (I1 acc) = some [(false, [.row 3 1 (I1 vs)])] ∧ (∀ z, z ∈ vs ↔ isVar xs z) ∧ vs.length ≤ terms xs := by
    intro m
    induction m with
    | zero =>
      intro i n acc hm hn ha hmem
      obtain ⟨n, rfl⟩ : ∃ j, n = j + 1 := ⟨n - 1, by omega⟩
      obtain rfl : i = xs.length := by omega
      rw [List.take_length] at ha hmem
      obtain ⟨k, rfl⟩ : ∃ j, k = j + 1 := ⟨k - 1, by omega⟩
      have e1 : C (k + 1) 215 [.var 0 0, .d (.int .i64 3), .d (.list 1 (I1 acc))] = some [(false, [.row 3 1 (I1 (sortInts acc))])] := by
        show sortP _ = _
        unfold sortP rawArg
        simp only [ints_I1]
        rw [show Nat.ble acc.length 1099511627776 = true from Nat.ble_eq_true_of_le (by omega)]
        rfl
      have hsl : (sortInts acc).length = acc.length := by simp [sortInts]
      have e2 : C (k + 1) 216 [.var 0 0, .d (.int .i64 3), .d (.list 1 (I1 (sortInts acc)))] = some [(false, [.row 3 1 (I1 (Lib.compact (sortInts acc)))]), (true, [])] := by
        show compactP _ = _
        unfold compactP rawArg
        simp only [ints_I1]
        rw [show Nat.ble (sortInts acc).length 1099511627776 = true from Nat.ble_eq_true_of_le (by omega)]
        rfl
      refine ⟨Lib.compact (sortInts acc), ?_, fun z => ?_, ?_⟩
      · rw [F161.L3.succ, ite'_f (lt_f (by omega)), e1]
        simp only [bindR_s, resO_s, bindL_s]
        rw [e2]
        rfl
      · rw [mem_compact, mem_sortInts, hmem z]
      · have := compact_len (sortInts acc)
        omega
    | succ m ih =>
      intro i n acc hm hn ha hmem
      obtain ⟨n, rfl⟩ : ∃ j, n = j + 1 := ⟨n - 1, by omega⟩
      have hi : i < xs.length := by omega
      have hx := List.getElem?_eq_getElem hi
      rw [F161.L3.succ, A1_len, ite'_t (lt_t hi), ite'_t (inR_t hi)]
      simp only [Int.toNat_natCast, cellI_at (A1_get hx), cellL_at (A1_get hx), List.getElem?_cons_zero, List.getElem?_cons_succ, Option.bind_some, asI_s, asL_s, bindI_s, bindL_s]
      have hta := terms_at hx
      have htl := terms_le xs (i + 1)
      rw [I1_len]
      obtain ⟨acc', e, h1, h2⟩ := inner i _ hx (xs[i]).2.length 0 k n acc (by omega) (by omega) (by omega) (fun z => by simp [hmem z])
      rw [show ((0 : Nat) : Int) = 0 from rfl] at e
      rw [e]
      exact ih (i + 1) n acc' (by omega) (by omega) h1 h2
  have := outer xs.length 0 k [] (by omega) (by omega) (by simp) (fun z => by simp [isVar])
  exact this
theorem sortP_show : True := trivial
/-- spec.l4Put -/
theorem c147 (zs : List Int) (v : Int) (hk : zs.length < k) (hz : zs.length ≤ 1048576) : ∃ r ws, C (k + 1) 147 [.d (.list 1 (I1 zs)), .d (.int .i64 v)] = some r ∧ resL 1 1 false 1 r 0 0 = some (I1 ws) ∧ (∀ z, z ∈ ws ↔ z ∈ zs ∨ z = v) ∧ ws.length ≤ zs.length + 1 := by
  rw [F147.run]
  have hmax : (1048576 : Nat) ≤ maxLen := by decide
  have ins : ∀ i : Nat, i ≤ zs.length → ∃ r ws, (ite' (inS (i : Int) ((I1 zs).length : Int) (I1 zs).length) (ite' (fits (([[D.int .i64 v]] : Ovi.Rows).length + ((I1 zs).drop (i : Int).toNat).length)) (ite' (inS (0 : Int) (i : Int) (I1 zs).length) (ite' (fits ((I1 zs).take (i : Int).toNat).length) (ite' (fits (((I1 zs).take (i : Int).toNat).length + List.length ([[D.int .i64 v]] ++ (I1 zs).drop (i : Int).toNat))) (some ([(false, [RL.row 3 1 ((I1 zs).take (i : Int).toNat ++ ([[D.int .i64 v]] ++ (I1 zs).drop (i : Int).toNat))])] : Res)) none) none) none) none) none) = some r ∧ resL 1 1 false 1 r 0 0 = some (I1 ws) ∧ (∀ z, z ∈ ws ↔ z ∈ zs ∨ z = v) ∧ ws.length ≤ zs.length + 1 := by
    intro i hi
    rw [I1_len, ite'_t (by simp [inS]; omega), ite'_t (fits_t (by simp [I1_len]; omega)), ite'_t (by simp [inS]; omega), ite'_t (fits_t (by simp [I1_len]; omega)), ite'_t (fits_t (by simp [I1_len]; omega))]
    refine ⟨_, zs.take i ++ v :: zs.drop i, rfl, ?_, fun z => ?_, by simp; omega⟩
    · rw [resL_s]
      simp [I1]
    · have : z ∈ zs ↔ z ∈ zs.take i ∨ z ∈ zs.drop i := by rw [← List.mem_append, List.take_append_drop]
      rw [this, List.mem_append, List.mem_cons]
      constructor
      · rintro (h | h | h)
        · exact .inl (.inl h)
        · exact .inr h
        · exact .inl (.inr h)
      · rintro ((h | h) | h)
        · exact .inl h
        · exact .inr (.inr h)
        · exact .inr (.inl h)
  have main : ∀ (m i n : Nat), i + m = zs.length → m < n → ∃ r ws, F147.L2 k (C k) n (I1 zs) v (i : Int) = some r ∧ resL 1 1 false 1 r 0 0 = some (I1 ws) ∧ (∀ z, z ∈ ws ↔ z ∈ zs ∨ z = v) ∧ ws.length ≤ zs.length + 1 := by
    intro m
    induction m with
    | zero =>
      intro i n hm hn
      obtain ⟨n, rfl⟩ : ∃ j, n = j + 1 := ⟨n - 1, by omega⟩
      obtain ⟨r, ws, h1, h2⟩ := ins i (by omega)
      refine ⟨r, ws, ?_, h2⟩
      rw [F147.L2.succ]
      rw [ite'_f (b := decide ((i : Int) < ((I1 zs).length : Int))) (by rw [I1_len]; exact lt_f (by omega))]
      rw [ite'_f (b := decide ((i : Int) < ((I1 zs).length : Int))) (by rw [I1_len]; exact lt_f (by omega))]
      exact h1
    | succ m ih =>
      intro i n hm hn
      obtain ⟨n, rfl⟩ : ∃ j, n = j + 1 := ⟨n - 1, by omega⟩
      have hi : i < zs.length := by omega
      have hx := List.getElem?_eq_getElem hi
      obtain ⟨r, ws, h1, h2⟩ := ins i (by omega)
      rw [F147.L2.succ]
      rw [ite'_t (b := decide ((i : Int) < ((I1 zs).length : Int))) (by rw [I1_len]; exact lt_t hi)]
      rw [ite'_t (b := inR (i : Int) (I1 zs).length) (by rw [I1_len]; exact inR_t hi)]
      rw [show cellI .i64 (I1 zs) (i : Int).toNat 0 = some zs[i] by rw [Int.toNat_natCast, cellI_at (I1_get' hx)]; rfl]
      simp only [bindI_s]
      by_cases hlt : zs[i] < v
      · rw [ite'_t (by simpa using hlt), next_i hi (m := zs.length) (by omega)]
        exact ih (i + 1) n (by omega) (by omega)
      · rw [ite'_f (b := decide (zs[i] < v)) (by simpa using hlt)]
        rw [ite'_t (b := decide ((i : Int) < ((I1 zs).length : Int))) (by rw [I1_len]; exact lt_t hi)]
        rw [ite'_t (b := inR (i : Int) (I1 zs).length) (by rw [I1_len]; exact inR_t hi)]
        by_cases heq : zs[i] = v
        · rw [ite'_t (b := zs[i] == v) (by simpa using heq)]
          refine ⟨_, zs, rfl, resL_d _ _, fun z => ⟨.inl, ?_⟩, by omega⟩
          rintro (h | h)
          · exact h
          · rw [h, ← heq]; exact List.getElem_mem hi
        · rw [ite'_f (b := zs[i] == v) (by simpa using heq)]
          exact ⟨r, ws, h1, h2⟩
  have := main zs.length 0 k (by omega) (by omega)
  exact this
/-- spec.Variables -/
theorem c155 (xs : List Atom) (hk : terms xs + xs.length < k) (hs : terms xs + xs.length ≤ 1048576) : ∃ vs, C (k + 2) 155 [.d (.list 2 (A1 xs))] = some [(false, [.d (.list 1 (I1 vs))])] ∧ (∀ z, z ∈ vs ↔ isVar xs z) ∧ vs.length ≤ terms xs := by
  rw [F155.run]
  have hmax : (1048576 : Nat) ≤ maxLen := by decide
  have inner : ∀ (i : Nat) (x : Atom), xs[i]? = some x → ∀ (m j n k3 : Nat) (acc : List Int), j + m = x.2.length → m < n → acc.length ≤ terms (xs.take i) + j → (∀ z, z ∈ acc ↔ isVar (xs.take i) z ∨ (0 ≤ z ∧ z ∈ x.2.take j)) →
      ∃ acc', F155.L6 (k + 1) (C (k + 1)) k3 n (A1 xs) (I1 acc) (i : Int) (j : Int) = F155.L3 (k + 1) (C (k + 1)) k3 (A1 xs) (I1 acc') ((i + 1 : Nat) : Int) ∧ acc'.length ≤ terms (xs.take (i + 1)) ∧ ∀ z, z ∈ acc' ↔ isVar (xs.take (i + 1)) z := by
    intro i x hx m
    have hi := (List.getElem?_eq_some_iff.1 hx).1
    have hta := terms_at hx
    have htl := terms_le xs (i + 1)
    have hcell : cellL 1 (A1 xs) ((i : Int)).toNat 1 = some (I1 x.2) := by rw [Int.toNat_natCast, cellL_at (A1_get hx)]; rfl
    have hin : inR (i : Int) (A1 xs).length = true := by rw [A1_len]; exact inR_t hi
    induction m with
    | zero =>
      intro j n k3 acc hm hn ha hmem
      obtain ⟨n, rfl⟩ : ∃ j, n = j + 1 := ⟨n - 1, by omega⟩
      obtain rfl : j = x.2.length := by omega
      refine ⟨acc, ?_, by omega, fun z => ?_⟩
      · rw [F155.L6.succ, ite'_t hin, hcell, bindL_s, I1_len, ite'_f (lt_f (by omega)), next_i hi (m := xs.length) (by omega)]
      · rw [hmem z, isVar_take hx, List.take_length]
    | succ m ih =>
      intro j n k3 acc hm hn ha hmem
      obtain ⟨n, rfl⟩ : ∃ j, n = j + 1 := ⟨n - 1, by omega⟩
      have hj : j < x.2.length := by omega
      have hz := List.getElem?_eq_getElem hj
      have hcz : cellI .i64 (I1 x.2) ((j : Int)).toNat 0 = some x.2[j] := by rw [Int.toNat_natCast, cellI_at (I1_get' hz)]; rfl
      have hinj : inR (j : Int) (I1 x.2).length = true := by rw [I1_len]; exact inR_t hj
      rw [F155.L6.succ, ite'_t hin, hcell, bindL_s, ite'_t (b := decide ((j : Int) < ((I1 x.2).length : Int))) (by rw [I1_len]; exact lt_t hj), ite'_t hin]
      simp only [bindL_s]
      rw [ite'_t hinj, hcz]
      simp only [bindI_s]
      rw [next_i hj (m := x.2.length) (by omega)]
      have htk : ∀ z, z ∈ x.2.take (j + 1) ↔ z ∈ x.2.take j ∨ z = x.2[j] := by
        intro z
        rw [List.take_succ_eq_append_getElem hj]
        simp only [List.mem_append, List.mem_singleton]
      by_cases h0 : 0 ≤ x.2[j]
      · obtain ⟨r, ws, e1, e2, e3, e4⟩ := c147 (k := k) acc x.2[j] (by omega) (by omega)
        rw [ite'_t (by simpa using h0), ite'_t hin, ite'_t hinj, e1]
        simp only [bindR_s]
        rw [e2, bindL_s]
        refine ih (j + 1) n k3 _ (by omega) (by omega) (by omega) (fun z => ?_)
        rw [e3 z, hmem z, htk z]
        constructor
        · rintro ((h | h) | h)
          · exact .inl h
          · exact .inr ⟨h.1, .inl h.2⟩
          · exact .inr ⟨h ▸ h0, .inr h⟩
        · rintro (h | ⟨h1, h | h⟩)
          · exact .inl (.inl h)
          · exact .inl (.inr ⟨h1, h⟩)
          · exact .inr h
      · rw [ite'_f (by simpa using h0)]
        refine ih (j + 1) n k3 _ (by omega) (by omega) (by omega) (fun z => ?_)
        rw [hmem z, htk z]
        constructor
        · rintro (h | h)
          · exact .inl h
          · exact .inr ⟨h.1, .inl h.2⟩
        · rintro (h | ⟨h1, h | h⟩)
          · exact .inl h
          · exact .inr ⟨h1, h⟩
          · exact absurd (h ▸ h1) h0
  have outer : ∀ (m i n : Nat) (acc : List Int), i + m = xs.length → m < n → acc.length ≤ terms (xs.take i) → (∀ z, z ∈ acc ↔ isVar (xs.take i) z) →
      ∃ vs, F155.L3 (k + 1) (C (k + 1)) n (A1 xs) (I1 acc) (i : Int) = some [(false, [.d (.list 1 (I1 vs))])] ∧ (∀ z, z ∈ vs ↔ isVar xs z) ∧ vs.length ≤ terms xs := by
    intro m
    induction m with
    | zero =>
      intro i n acc hm hn ha hmem
      obtain ⟨n, rfl⟩ : ∃ j, n = j + 1 := ⟨n - 1, by omega⟩
      obtain rfl : i = xs.length := by omega
      rw [List.take_length] at ha hmem
      exact ⟨acc, by rw [F155.L3.succ, A1_len, ite'_f (lt_f (by omega))], hmem, ha⟩
    | succ m ih =>
      intro i n acc hm hn ha hmem
      obtain ⟨n, rfl⟩ : ∃ j, n = j + 1 := ⟨n - 1, by omega⟩
      have hi : i < xs.length := by omega
      have hx := List.getElem?_eq_getElem hi
      have hta := terms_at hx
      have htl := terms_le xs (i + 1)
      rw [F155.L3.succ, A1_len, ite'_t (lt_t hi)]
      obtain ⟨acc', e, h1, h2⟩ := inner i _ hx (xs[i]).2.length 0 (k + 1) n acc (by omega) (by omega) (by omega) (fun z => by simp [hmem z])
      rw [show ((0 : Nat) : Int) = 0 from rfl] at e
      rw [e]
      exact ih (i + 1) n acc' (by omega) (by omega) h1 h2
  have := outer xs.length 0 (k + 1) [] (by omega) (by omega) (by simp) (fun z => by simp [isVar])
  exact this
end Go.Proofs.YthicohakeljdcaaGreat.Q

/-! YJa -/
namespace Go.Proofs.YthicohakeljdcaaGreat.Q
open Go Ovi
variable {k : Nat}
noncomputable def vB (xs : List Atom) (z : Int) : Bool := @decide (isVar xs z) (Classical.propDecidable _)
theorem vB_mem {xs : List Atom} {vs : List Int} (h : ∀ z, z ∈ vs ↔ isVar xs z) (z : Int) : decide (z ∈ vs) = vB xs z := by
  unfold vB
  rw [Bool.eq_iff_iff]
  simp [h z]
/-- what both IsValidAtom say -/
def Valid (a : Ovi.Rows) (xs : List Atom) (valid : Atom → Bool) : Prop := ∀ x ∈ xs, ∀ k, a.length < k → x.2.length < k → C (k + 5) 219 [.d (.list 3 a), .agg [.d (.int .i64 x.1), .d (.list 1 (I1 x.2))]] = bo (valid x) ∧ C (k + 5) 156 [.d (.list 3 a), .agg [.d (.int .i64 x.1), .d (.list 1 (I1 x.2))]] = bo (valid x)
theorem valid_ex {a : Ovi.Rows} (ha : Fit Rl (.list 3 a)) (xs : List Atom) (hx : ∀ x ∈ xs, x.2.length ≤ maxLen) : ∃ valid : Atom → Bool, (∀ x ∈ xs, valid x = true → (0 ≤ x.1 ∧ x.1 < (a.length : Int)) ∧ (x.2.length : Int) = ar a x.1 ∧ ∀ t ∈ x.2, -10 ≤ t ∧ t ≤ 4) ∧ Valid a xs valid := by
  have : ∀ x : Atom, ∃ b, x ∈ xs → (b = true → (0 ≤ x.1 ∧ x.1 < (a.length : Int)) ∧ (x.2.length : Int) = ar a x.1 ∧ ∀ t ∈ x.2, -10 ≤ t ∧ t ≤ 4) ∧ ∀ k, a.length < k → x.2.length < k → C (k + 5) 219 [.d (.list 3 a), .agg [.d (.int .i64 x.1), .d (.list 1 (I1 x.2))]] = bo b ∧ C (k + 5) 156 [.d (.list 3 a), .agg [.d (.int .i64 x.1), .d (.list 1 (I1 x.2))]] = bo b := by
    intro x
    by_cases h : x ∈ xs
    · obtain ⟨b, hb⟩ := atoms ha x (hx x h)
      exact ⟨b, fun _ => hb⟩
    · exact ⟨false, fun h' => absurd h' h⟩
  obtain ⟨valid, hv⟩ := Classical.axiomOfChoice this
  exact ⟨valid, fun x hx => (hv x hx).1, fun x hx => (hv x hx).2⟩
noncomputable def qOk (valid : Atom → Bool) (xs : List Atom) (out : List Int) : Bool := (decide ((1 : Int) ≤ (xs.length : Int) ∧ (xs.length : Int) ≤ 3) && xs.all valid) && (decide ((out.length : Int) ≤ 3) && out.all (vB xs))
theorem len_terms {xs : List Atom} {x : Atom} (h : x ∈ xs) : x.2.length ≤ terms xs := by
  induction xs with
  | nil => cases h
  | cons y ys ih =>
    have e : terms (y :: ys) = y.2.length + terms ys := by simp [terms]
    rw [e]
    rcases List.mem_cons.1 h with rfl | h
    · omega
    · have := ih h; omega
theorem any_not {α : Type} (l : List α) (p : α → Bool) : (!(l.any fun x => !p x)) = l.all p := by
  induction l with
  | nil => rfl
  | cons x l ih => rw [List.any_cons, List.all_cons, ← ih]; cases p x <;> simp
/-- impl.IsValidQuery -/
theorem c95 {a : Ovi.Rows} {xs : List Atom} {out : List Int} {valid : Atom → Bool} (hv : Valid a xs valid) (hk : 2000000 ≤ k) (ha : a.length ≤ 1048576) (hs : terms xs + xs.length ≤ 1048576) (ho : out.length ≤ 1048576) :
    C (k + 10) 95 [.d (.list 3 a), .agg [.d (.list 1 (I1 out)), .d (.list 2 (A1 xs))]] = bo (qOk valid xs out) := by
  have hmax : (1048576 : Nat) ≤ maxLen := by decide
  obtain ⟨vs, e, hm, hl⟩ := c161 (k := k + 8) xs (by omega) hs
  rw [F95.run, e]
  simp only [bindR_s, resO_s, bindL_s]
  have e68 : C (k + 9) 162 [.d (.list 3 a), .d (.list 2 (A1 xs)), .d (.int .i64 3)] = bo (decide ((1 : Int) ≤ (xs.length : Int) ∧ (xs.length : Int) ≤ 3) && xs.all valid) := by
    rw [F162.run, c73, bB, A1_len]
    cases decide ((1 : Int) ≤ (xs.length : Int) ∧ (xs.length : Int) ≤ 3) with
    | false => rfl
    | true =>
      rw [ite'_t rfl, c217 (k := k + 6) xs 218 [[.list 3 a]] (fun x => !valid x) (by omega) (by omega) (fun x hx => by
        have := len_terms hx
        rw [List.map_cons, List.map_nil, F218.run, (hv x hx k (by omega) (by omega)).1, bB]; rfl), bB]
      exact bo_eq (any_not xs valid)
  rw [e68, bB, I1_len]
  unfold qOk
  cases (decide ((1 : Int) ≤ (xs.length : Int) ∧ (xs.length : Int) ≤ 3) && xs.all valid) with
  | false => rfl
  | true =>
    rw [ite'_t rfl]
    by_cases h3 : (out.length : Int) ≤ 3
    · rw [ite'_t (by simpa using h3), c163 (k := k + 7) out 164 [[.list 1 (I1 vs)]] (fun z => !vB xs z) (by omega) (by omega) (fun z hz => by
        rw [List.map_cons, List.map_nil, F164.run, c83 (k := k + 4) vs z (by omega) (by omega), bB, vB_mem hm]; rfl), bB, decide_eq_true h3]
      exact bo_eq (any_not out (vB xs))
    · rw [ite'_f (by simpa using h3), decide_eq_false h3]
      rfl
/-- spec.IsValidQuery -/
theorem c89 {a : Ovi.Rows} {xs : List Atom} {out : List Int} {valid : Atom → Bool} (hv : Valid a xs valid) (hk : 2000000 ≤ k) (ha : a.length ≤ 1048576) (hs : terms xs + xs.length ≤ 1048576) (ho : out.length ≤ 1048576) :
    C (k + 10) 89 [.d (.list 3 a), .agg [.d (.list 1 (I1 out)), .d (.list 2 (A1 xs))]] = bo (qOk valid xs out) := by
  have hmax : (1048576 : Nat) ≤ maxLen := by decide
  obtain ⟨vs, e, hm, hl⟩ := c155 (k := k + 7) xs (by omega) hs
  rw [F89.run, e]
  simp only [bindR_s, resL_d, bindL_s]
  have l14 : F89.L8 (k + 9) (C (k + 9)) (k + 9) (I1 vs) 0 (I1 out) (A1 xs) = cond (out.any fun z => !vB xs z) (bo false) (bo (decide ((1 : Int) ≤ (xs.length : Int) ∧ (xs.length : Int) ≤ 3) && decide ((out.length : Int) ≤ 3))) :=
    loop_any (xs := out) (L := fun n i => F89.L8 (k + 9) (C (k + 9)) n (I1 vs) i (I1 out) (A1 xs)) (stop := fun z => !vB xs z)
      (fun n i z hz => by
        have hi := (List.getElem?_eq_some_iff.1 hz).1
        rw [F89.L8.succ, I1_len, ite'_t (lt_t hi), ite'_t (inR_t hi)]
        simp only [Int.toNat_natCast, cellI_at (I1_get' hz), List.getElem?_cons_zero, Option.bind_some, asI_s, bindI_s]
        rw [c81 (k := k + 8) vs z (by omega) (by omega), bB, vB_mem hm, next_i hi (m := out.length) (by omega)]; rfl)
      (fun n => by
        rw [F89.L8.succ, I1_len, ite'_f (lt_f (by omega)), c68, bB, A1_len]
        cases decide ((1 : Int) ≤ (xs.length : Int) ∧ (xs.length : Int) ≤ 3) <;> rfl) (k + 9) (by omega)
  have l3 : F89.L3 (k + 9) (C (k + 9)) (k + 9) a (I1 vs) 0 (I1 out) (A1 xs) = cond (xs.any fun x => !valid x) (bo false) (F89.L8 (k + 9) (C (k + 9)) (k + 9) (I1 vs) 0 (I1 out) (A1 xs)) :=
    loop_any (xs := xs) (L := fun n i => F89.L3 (k + 9) (C (k + 9)) n a (I1 vs) i (I1 out) (A1 xs)) (stop := fun x => !valid x)
      (fun n i x hx => by
        have hi := (List.getElem?_eq_some_iff.1 hx).1
        have := len_terms (List.mem_of_getElem? hx)
        rw [F89.L3.succ, A1_len, ite'_t (lt_t hi), ite'_t (inR_t hi)]
        simp only [Int.toNat_natCast, cellI_at (A1_get hx), cellL_at (A1_get hx), List.getElem?_cons_zero, List.getElem?_cons_succ, Option.bind_some, asI_s, asL_s, bindI_s, bindL_s]
        rw [(hv x (List.mem_of_getElem? hx) (k + 4) (by omega) (by omega)).2, bB, next_i hi (m := xs.length) (by omega)]; rfl)
      (fun n => by rw [F89.L3.succ, A1_len, ite'_f (lt_f (by omega))]) (k + 9) (by omega)
  rw [l3, l14]
  unfold qOk
  rw [← any_not xs valid, ← any_not out (vB xs)]
  cases (xs.any fun x => !valid x) <;> cases (out.any fun z => !vB xs z) <;> cases decide ((1 : Int) ≤ (xs.length : Int) ∧ (xs.length : Int) ≤ 3) <;> cases decide ((out.length : Int) ≤ 3) <;> rfl
def In1 : Ty := .list [.int .i64]
def At : Ty := .list [.int .i64, .list [.int .i64]]
theorem sz_atoms {xs : List Atom} : szD (.list 2 (A1 xs)) = xs.length + terms xs := by
  simp only [szD, A1_len, szR_A1]
  rfl
theorem sz_ints {zs : List Int} : szD (.list 1 (I1 zs)) = zs.length := by simp only [szD, I1_len, szR_I1, Nat.add_zero]
theorem sz_rels {a : Ovi.Rows} : a.length ≤ szD (.list 3 a) := by simp only [szD]; omega
end Go.Proofs.YthicohakeljdcaaGreat.Q

/-! YHb -/
namespace Go.Proofs.YthicohakeljdcaaGreat.Q
open Go Ovi
variable {k : Nat}
/-! ### values -/
def isN (v : Int) : Bool := decide (-40 ≤ v ∧ v ≤ -1)
def okV (v : Int) : Bool := decide (-40 ≤ v ∧ v ≤ 9)
def nn (v : Int) : Option Res := some [(false, [.d (.int .i64 (if isN v then -1 - v else 0))]), (false, [.d (.bool (isN v))])]
theorem nnB (v : Int) (f : Int → Bool → Option Res) : (bindR (nn v) fun r => bindI (resI .i64 2 false 1 r 0 0) fun n => bindB (resB 2 false 1 r 1 0) fun b => f n b) = f (if isN v then -1 - v else 0) (isN v) := rfl
theorem isN_t {v : Int} (h : isN v = true) : -40 ≤ v ∧ v ≤ -1 := of_decide_eq_true h
theorem isN_f {v : Int} (h : isN v = false) : ¬ (-40 ≤ v ∧ v ≤ -1) := of_decide_eq_false h
theorem wrapN {v : Int} (h : inI v) : IntKind.i64.wrap (-1 - v) = -1 - v := by unfold inI at h; exact wrap_id (by omega) (by omega)
/-- spec.NullNumber -/
theorem c80 {v : Int} (h : inI v) : C (k + 2) 80 [.d (.int .i64 v)] = nn v := by
  rw [F80.run]
  by_cases h0 : v ≥ 0
  · rw [ite'_t (by simpa using h0)]
    have : isN v = false := decide_eq_false (by omega)
    simp [nn, this]
  · rw [ite'_f (by simpa using h0), wrapN h, c68, bB]
    by_cases h1 : isN v = true
    · have := isN_t h1
      rw [decide_eq_true (by omega), ite'_nt]
      simp [nn, h1]
    · have h1 : isN v = false := by simpa using h1
      have := isN_f h1
      rw [decide_eq_false (by omega), ite'_nf]
      simp [nn, h1]
/-- impl.NullNumber -/
theorem c82 {v : Int} (h : inI v) : C (k + 2) 82 [.d (.int .i64 v)] = nn v := by
  rw [F82.run, wrapN h, c73, bB]
  by_cases h1 : isN v = true
  · have := isN_t h1
    rw [decide_eq_true (by omega), ite'_nt]
    simp [nn, h1]
  · have h1 : isN v = false := by simpa using h1
    have := isN_f h1
    rw [decide_eq_false (by omega), ite'_nf]
    simp [nn, h1]
/-- spec.IsValidValue -/
theorem c157 {v : Int} (h : inI v) : C (k + 3) 157 [.d (.int .i64 v)] = bo (okV v) := by
  rw [F157.run, c80 h, nnB]
  by_cases h1 : isN v = true
  · have := isN_t h1
    rw [ite'_t h1]
    exact bo_eq (b := true) (by rw [okV, decide_eq_true (by omega)])
  · have h1 : isN v = false := by simpa using h1
    have := isN_f h1
    rw [ite'_f h1, c68, bB]
    refine bo_eq ?_
    unfold okV
    rw [Bool.eq_iff_iff]
    simp only [decide_eq_true_eq]
    omega
/-- impl.IsValidValue -/
theorem c165 (v : Int) : C (k + 2) 165 [.d (.int .i64 v)] = bo (okV v) := by
  rw [F165.run, c73, bB]; rfl
/-- the numbers of the nulls among values -/
def nulls (zs : List Int) : List Int := Lib.compact (sortInts ((zs.filter isN).map fun v => -1 - v))
theorem nulls_ss (zs : List Int) : SS (nulls zs) := ss_compact _
theorem mem_nulls (zs : List Int) (n : Int) : n ∈ nulls zs ↔ ∃ v ∈ zs, isN v = true ∧ n = -1 - v := by
  unfold nulls
  rw [mem_compact, mem_sortInts]
  simp only [List.mem_map, List.mem_filter]
  constructor
  · rintro ⟨v, ⟨h1, h2⟩, rfl⟩; exact ⟨v, h1, h2, rfl⟩
  · rintro ⟨v, h1, h2, rfl⟩; exact ⟨v, ⟨h1, h2⟩, rfl⟩
theorem nulls_len (zs : List Int) : (nulls zs).length ≤ zs.length := by
  unfold nulls
  have h1 := compact_len (sortInts ((zs.filter isN).map fun v => -1 - v))
  have h2 : (sortInts ((zs.filter isN).map fun v => -1 - v)).length = (zs.filter isN).length := by simp [sortInts]
  have h3 := List.length_filter_le isN zs
  omega
/-- impl.nullsOf -/
theorem c212 (zs : List Int) (hI : ∀ z ∈ zs, inI z) (hk : zs.length < k) (hz : zs.length ≤ 1048576) : C (k + 3) 212 [.d (.list 1 (I1 zs))] = some [(false, [.row 3 1 (I1 (nulls zs))])] := by
  rw [F212.run, I1_len]
  have hmax : (1048576 : Nat) ≤ maxLen := by decide
  have main : ∀ (m i n : Nat), i + m = zs.length → m < n → F212.L3 (k + 2) (C (k + 2)) n (I1 zs) (zs.length : Int) (i : Int) (I1 (((zs.take i).filter isN).map fun v => -1 - v)) = some [(false, [.row 3 1 (I1 (nulls zs))])] := by
    intro m
    induction m with
    | zero =>
      intro i n hm hn
      obtain ⟨n, rfl⟩ : ∃ j, n = j + 1 := ⟨n - 1, by omega⟩
      obtain rfl : i = zs.length := by omega
      rw [List.take_length]
      have hf := List.length_filter_le isN zs
      generalize hacc : (zs.filter isN).map (fun v => -1 - v) = acc
      have hal : acc.length ≤ zs.length := by rw [← hacc]; simpa using hf
      have e1 : C (k + 2) 215 [.var 0 0, .d (.int .i64 3), .d (.list 1 (I1 acc))] = some [(false, [.row 3 1 (I1 (sortInts acc))])] := by
        show sortP _ = _
        unfold sortP rawArg
        simp only [ints_I1]
        rw [show Nat.ble acc.length 1099511627776 = true from Nat.ble_eq_true_of_le (by omega)]
        rfl
      have hsl : (sortInts acc).length = acc.length := by simp [sortInts]
      have e2 : C (k + 2) 216 [.var 0 0, .d (.int .i64 3), .d (.list 1 (I1 (sortInts acc)))] = some [(false, [.row 3 1 (I1 (Lib.compact (sortInts acc)))]), (true, [])] := by
        show compactP _ = _
        unfold compactP rawArg
        simp only [ints_I1]
        rw [show Nat.ble (sortInts acc).length 1099511627776 = true from Nat.ble_eq_true_of_le (by omega)]
        rfl
      rw [F212.L3.succ, ite'_f (lt_f (by omega)), e1]
      simp only [bindR_s, resO_s, bindL_s]
      rw [e2]
      unfold nulls
      rw [hacc]
      rfl
    | succ m ih =>
      intro i n hm hn
      obtain ⟨n, rfl⟩ : ∃ j, n = j + 1 := ⟨n - 1, by omega⟩
      have hi : i < zs.length := by omega
      have hx := List.getElem?_eq_getElem hi
      have hft := List.length_filter_le isN (zs.take i)
      rw [F212.L3.succ, I1_len, ite'_t (lt_t hi), ite'_t (inR_t hi)]
      simp only [Int.toNat_natCast, cellI_at (I1_get' hx), List.getElem?_cons_zero, Option.bind_some, asI_s, bindI_s]
      rw [c82 (hI _ (List.getElem_mem hi)), nnB, next_i hi (m := zs.length) (by omega)]
      have hstep : (zs.take (i + 1)).filter isN = (zs.take i).filter isN ++ (if isN zs[i] then [zs[i]] else []) := by
        rw [List.take_succ_eq_append_getElem hi, List.filter_append]
        cases h : isN zs[i] <;> simp [h]
      have := ih (i + 1) n (by omega) (by omega)
      rw [hstep] at this
      cases h : isN zs[i] with
      | true =>
        rw [ite'_t rfl, ite'_t (fits_t (by simp [I1_len] at hft ⊢; omega))]
        rw [h] at this
        simp only [if_true, List.map_append, List.map_cons, List.map_nil] at this ⊢
        rw [← this]
        simp [I1]
      | false =>
        rw [ite'_f rfl]
        rw [h] at this
        simpa using this
  exact main zs.length 0 (k + 2) (by omega) (by omega)
/-- spec.l4Put keeps the order -/
theorem c147s (zs : List Int) (v : Int) (hS : SS zs) (hk : zs.length < k) (hz : zs.length ≤ 1048576) : ∃ r ws, C (k + 1) 147 [.d (.list 1 (I1 zs)), .d (.int .i64 v)] = some r ∧ resL 1 1 false 1 r 0 0 = some (I1 ws) ∧ (∀ z, z ∈ ws ↔ z ∈ zs ∨ z = v) ∧ ws.length ≤ zs.length + 1 ∧ SS ws := by
  rw [F147.run]
  have hmax : (1048576 : Nat) ≤ maxLen := by decide
  have ins : ∀ i : Nat, i ≤ zs.length → (∀ (j : Nat) y, j < i → zs[j]? = some y → y < v) → (∀ y, zs[i]? = some y → v < y) → ∃ r ws, (ite' (inS (i : Int) ((I1 zs).length : Int) (I1 zs).length) (ite' (fits (([[D.int .i64 v]] : Ovi.Rows).length + ((I1 zs).drop (i : Int).toNat).length)) (ite' (inS (0 : Int) (i : Int) (I1 zs).length) (ite' (fits ((I1 zs).take (i : Int).toNat).length) (ite' (fits (((I1 zs).take (i : Int).toNat).length + List.length ([[D.int .i64 v]] ++ (I1 zs).drop (i : Int).toNat))) (some ([(false, [RL.row 3 1 ((I1 zs).take (i : Int).toNat ++ ([[D.int .i64 v]] ++ (I1 zs).drop (i : Int).toNat))])] : Res)) none) none) none) none) none) = some r ∧ resL 1 1 false 1 r 0 0 = some (I1 ws) ∧ (∀ z, z ∈ ws ↔ z ∈ zs ∨ z = v) ∧ ws.length ≤ zs.length + 1 ∧ SS ws := by
    intro i hi hlt hgt
    rw [I1_len, ite'_t (by simp [inS]; omega), ite'_t (fits_t (by simp [I1_len]; omega)), ite'_t (by simp [inS]; omega), ite'_t (fits_t (by simp [I1_len]; omega)), ite'_t (fits_t (by simp [I1_len]; omega))]
    refine ⟨_, zs.take i ++ v :: zs.drop i, rfl, ?_, fun z => ?_, by simp; omega, ?_⟩
    · rw [resL_s]
      simp [I1]
    · have : z ∈ zs ↔ z ∈ zs.take i ∨ z ∈ zs.drop i := by rw [← List.mem_append, List.take_append_drop]
      rw [this, List.mem_append, List.mem_cons]
      constructor
      · rintro (h | h | h)
        · exact .inl (.inl h)
        · exact .inr h
        · exact .inl (.inr h)
      · rintro ((h | h) | h)
        · exact .inl h
        · exact .inr (.inr h)
        · exact .inr (.inl h)
    · have hd : ∀ y ∈ zs.drop i, v < y := by
        intro y hy
        obtain ⟨j, hj⟩ := List.mem_iff_getElem?.1 hy
        rw [List.getElem?_drop] at hj
        have hil : i < zs.length := by have := (List.getElem?_eq_some_iff.1 hj).1; omega
        have h0 := hgt zs[i] (List.getElem?_eq_getElem hil)
        rcases Nat.eq_zero_or_pos j with rfl | hjp
        · rw [Nat.add_zero, List.getElem?_eq_getElem hil] at hj; cases hj; exact h0
        · obtain ⟨hjl, e⟩ := List.getElem?_eq_some_iff.1 hj
          have := List.pairwise_iff_getElem.1 hS i (i + j) hil hjl (by omega)
          omega
      have ht : ∀ y ∈ zs.take i, y < v := by
        intro y hy
        obtain ⟨j, hj⟩ := List.mem_iff_getElem?.1 hy
        obtain ⟨hjl, e⟩ := List.getElem?_eq_some_iff.1 hj
        simp only [List.length_take] at hjl
        rw [List.getElem?_take_of_lt (by omega)] at hj
        exact hlt j y (by omega) hj
      refine List.pairwise_append.2 ⟨hS.sublist (List.take_sublist _ _), List.pairwise_cons.2 ⟨hd, hS.sublist (List.drop_sublist _ _)⟩, fun x hx y hy => ?_⟩
      have := ht x hx
      rcases List.mem_cons.1 hy with rfl | hy
      · exact this
      · have := hd y hy; omega
  have main : ∀ (m i n : Nat), i + m = zs.length → m < n → (∀ (j : Nat) y, j < i → zs[j]? = some y → y < v) → ∃ r ws, F147.L2 k (C k) n (I1 zs) v (i : Int) = some r ∧ resL 1 1 false 1 r 0 0 = some (I1 ws) ∧ (∀ z, z ∈ ws ↔ z ∈ zs ∨ z = v) ∧ ws.length ≤ zs.length + 1 ∧ SS ws := by
    intro m
    induction m with
    | zero =>
      intro i n hm hn hlt
      obtain ⟨n, rfl⟩ : ∃ j, n = j + 1 := ⟨n - 1, by omega⟩
      obtain ⟨r, ws, h1, h2⟩ := ins i (by omega) hlt (fun y hy => by have := (List.getElem?_eq_some_iff.1 hy).1; omega)
      refine ⟨r, ws, ?_, h2⟩
      rw [F147.L2.succ]
      rw [ite'_f (b := decide ((i : Int) < ((I1 zs).length : Int))) (by rw [I1_len]; exact lt_f (by omega))]
      rw [ite'_f (b := decide ((i : Int) < ((I1 zs).length : Int))) (by rw [I1_len]; exact lt_f (by omega))]
      exact h1
    | succ m ih =>
      intro i n hm hn hlt0
      obtain ⟨n, rfl⟩ : ∃ j, n = j + 1 := ⟨n - 1, by omega⟩
      have hi : i < zs.length := by omega
      have hx := List.getElem?_eq_getElem hi
      rw [F147.L2.succ]
      rw [ite'_t (b := decide ((i : Int) < ((I1 zs).length : Int))) (by rw [I1_len]; exact lt_t hi)]
      rw [ite'_t (b := inR (i : Int) (I1 zs).length) (by rw [I1_len]; exact inR_t hi)]
      rw [show cellI .i64 (I1 zs) (i : Int).toNat 0 = some zs[i] by rw [Int.toNat_natCast, cellI_at (I1_get' hx)]; rfl]
      simp only [bindI_s]
      by_cases hlt : zs[i] < v
      · rw [ite'_t (by simpa using hlt), next_i hi (m := zs.length) (by omega)]
        refine ih (i + 1) n (by omega) (by omega) (fun j y hj hy => ?_)
        by_cases hji : j = i
        · subst hji; rw [hx] at hy; cases hy; exact hlt
        · exact hlt0 j y (by omega) hy
      · rw [ite'_f (b := decide (zs[i] < v)) (by simpa using hlt)]
        rw [ite'_t (b := decide ((i : Int) < ((I1 zs).length : Int))) (by rw [I1_len]; exact lt_t hi)]
        rw [ite'_t (b := inR (i : Int) (I1 zs).length) (by rw [I1_len]; exact inR_t hi)]
        by_cases heq : zs[i] = v
        · rw [ite'_t (b := zs[i] == v) (by simpa using heq)]
          refine ⟨_, zs, rfl, resL_d _ _, fun z => ⟨.inl, ?_⟩, by omega, hS⟩
          rintro (h | h)
          · exact h
          · rw [h, ← heq]; exact List.getElem_mem hi
        · rw [ite'_f (b := zs[i] == v) (by simpa using heq)]
          obtain ⟨r, ws, h1, h2⟩ := ins i (by omega) hlt0 (fun y hy => by rw [hx] at hy; cases hy; omega)
          exact ⟨r, ws, h1, h2⟩
  have := main zs.length 0 k (by omega) (by omega) (fun j y hj => by omega)
  exact this
/-- spec.NullsOfFact -/
theorem c145 (r : Int) (zs : List Int) (hI : ∀ z ∈ zs, inI z) (hk : zs.length < k) (hz : zs.length ≤ 1048576) : C (k + 3) 145 [.agg [.d (.int .i64 r), .d (.list 1 (I1 zs))]] = some [(false, [.d (.list 1 (I1 (nulls zs)))])] := by
  rw [F145.run]
  have hmax : (1048576 : Nat) ≤ maxLen := by decide
  have main : ∀ (m i n : Nat) (acc : List Int), i + m = zs.length → m < n → SS acc → acc.length ≤ i → (∀ z, z ∈ acc ↔ ∃ v ∈ zs.take i, isN v = true ∧ z = -1 - v) → F145.L3 (k + 2) (C (k + 2)) n (I1 acc) (i : Int) r (I1 zs) = some [(false, [.d (.list 1 (I1 (nulls zs)))])] := by
    intro m
    induction m with
    | zero =>
      intro i n acc hm hn hS hl hmem
      obtain ⟨n, rfl⟩ : ∃ j, n = j + 1 := ⟨n - 1, by omega⟩
      obtain rfl : i = zs.length := by omega
      rw [List.take_length] at hmem
      rw [F145.L3.succ, I1_len, ite'_f (lt_f (by omega)), ss_eq hS (nulls_ss zs) (fun z => by rw [hmem z, mem_nulls])]
    | succ m ih =>
      intro i n acc hm hn hS hl hmem
      obtain ⟨n, rfl⟩ : ∃ j, n = j + 1 := ⟨n - 1, by omega⟩
      have hi : i < zs.length := by omega
      have hx := List.getElem?_eq_getElem hi
      have htk : ∀ z, z ∈ zs.take (i + 1) ↔ z ∈ zs.take i ∨ z = zs[i] := by
        intro z
        rw [List.take_succ_eq_append_getElem hi]
        simp only [List.mem_append, List.mem_singleton]
      rw [F145.L3.succ, I1_len, ite'_t (lt_t hi), ite'_t (inR_t hi)]
      simp only [Int.toNat_natCast, cellI_at (I1_get' hx), List.getElem?_cons_zero, Option.bind_some, asI_s, bindI_s]
      rw [c80 (hI _ (List.getElem_mem hi)), nnB, next_i hi (m := zs.length) (by omega)]
      cases h : isN zs[i] with
      | true =>
        obtain ⟨r', ws, e1, e2, e3, e4, e5⟩ := c147s (k := k + 1) acc (-1 - zs[i]) hS (by omega) (by omega)
        rw [ite'_t rfl]
        simp only [if_true]
        rw [e1]
        simp only [bindR_s]
        rw [e2, bindL_s]
        refine ih (i + 1) n ws (by omega) (by omega) e5 (by omega) (fun z => ?_)
        rw [e3 z, hmem z]
        constructor
        · rintro (⟨v, h1, h2⟩ | h1)
          · exact ⟨v, (htk v).2 (.inl h1), h2⟩
          · exact ⟨zs[i], (htk _).2 (.inr rfl), h, h1⟩
        · rintro ⟨v, h1, h2⟩
          rcases (htk v).1 h1 with h1 | rfl
          · exact .inl ⟨v, h1, h2⟩
          · exact .inr h2.2
      | false =>
        rw [ite'_f rfl]
        refine ih (i + 1) n acc (by omega) (by omega) hS (by omega) (fun z => ?_)
        rw [hmem z]
        constructor
        · rintro ⟨v, h1, h2⟩
          exact ⟨v, (htk v).2 (.inl h1), h2⟩
        · rintro ⟨v, h1, h2⟩
          rcases (htk v).1 h1 with h1 | rfl
          · exact ⟨v, h1, h2⟩
          · rw [h] at h2; cases h2.1
  exact main zs.length 0 (k + 2) [] (by omega) (by omega) (by simp [SS]) (by simp) (fun z => by simp)
/-- impl.NullsOfFact -/
theorem c174 (r : Int) (zs : List Int) (hI : ∀ z ∈ zs, inI z) (hk : zs.length < k) (hz : zs.length ≤ 1048576) : C (k + 4) 174 [.agg [.d (.int .i64 r), .d (.list 1 (I1 zs))]] = some [(false, [.row 3 1 (I1 (nulls zs))])] := by
  rw [F174.run, c212 zs hI hk hz]
  rfl
end Go.Proofs.YthicohakeljdcaaGreat.Q

/-! YIb -/
namespace Go.Proofs.YthicohakeljdcaaGreat.Q
open Go Ovi
variable {k : Nat}
/-! ### the order of facts -/
def cmpI : List Int → List Int → Int
  | [], [] => 0
  | [], _ :: _ => -1
  | _ :: _, [] => 1
  | x :: xs, y :: ys => if x < y then -1 else if x > y then 1 else cmpI xs ys
def io (n : Int) : Option Res := some [(false, [.d (.int .i64 n)])]
theorem iB' (n : Int) (f : Int → Option Res) : (bindR (io n) fun r => bindI (resI .i64 1 false 1 r 0 0) f) = f n := rfl
/-- cmp.Compare -/
def cmp1 (x y : Int) : Int := if x < y then -1 else if x > y then 1 else 0
theorem c225 (x y : Int) : C (k + 2) 225 [.d (.int .i64 x), .d (.int .i64 y)] = io (cmp1 x y) := by
  rw [F225.run, F266.run, F266.run]
  simp only [bne_self_eq_false, bindR_s, resB_s, bindB_s]
  rw [ite'_f rfl, ite'_f rfl]
  unfold cmp1
  by_cases h : x < y
  · rw [ite'_t (by simpa using h), if_pos h]; rfl
  · rw [ite'_f (by simpa using h), if_neg h]
    by_cases h' : x > y
    · rw [ite'_t (by simpa using h'), if_pos h']; rfl
    · rw [ite'_f (by simpa using h'), if_neg h']; rfl
theorem cmpI_drop {a b : List Int} {i : Nat} (ha : i < a.length) (hb : i < b.length) : cmpI (a.drop i) (b.drop i) = if a[i] < b[i] then -1 else if a[i] > b[i] then 1 else cmpI (a.drop (i + 1)) (b.drop (i + 1)) := by
  rw [List.drop_eq_getElem_cons ha, List.drop_eq_getElem_cons hb]
  rfl
/-- slices.Compare on integers -/
theorem c226 (a b : List Int) (hk : a.length < k) (ha : a.length ≤ maxLen) : C (k + 3) 226 [.d (.list 1 (I1 a)), .d (.list 1 (I1 b))] = io (cmpI a b) := by
  rw [F226.run, I1_len]
  have main : ∀ (m i n : Nat), i + m = a.length → m < n → i ≤ b.length → F226.L2 (k + 2) (C (k + 2)) n (I1 a) (I1 b) (I1 a) (a.length : Int) (i : Int) = io (cmpI (a.drop i) (b.drop i)) := by
    intro m
    induction m with
    | zero =>
      intro i n hm hn hb
      obtain ⟨n, rfl⟩ : ∃ j, n = j + 1 := ⟨n - 1, by omega⟩
      obtain rfl : i = a.length := by omega
      rw [F226.L2.succ, ite'_f (lt_f (by omega)), I1_len, I1_len, List.drop_eq_nil_of_le (Nat.le_refl _)]
      by_cases h : a.length < b.length
      · rw [ite'_t (lt_t h), List.drop_eq_getElem_cons h]; rfl
      · rw [ite'_f (lt_f h), List.drop_eq_nil_of_le (by omega)]; rfl
    | succ m ih =>
      intro i n hm hn hb
      obtain ⟨n, rfl⟩ : ∃ j, n = j + 1 := ⟨n - 1, by omega⟩
      have hi : i < a.length := by omega
      have hx := List.getElem?_eq_getElem hi
      rw [F226.L2.succ, ite'_t (lt_t hi), I1_len, ite'_t (inR_t hi)]
      simp only [Int.toNat_natCast, cellI_at (I1_get' hx), List.getElem?_cons_zero, Option.bind_some, asI_s, bindI_s]
      rw [I1_len]
      by_cases h : i < b.length
      · have hy := List.getElem?_eq_getElem h
        rw [ite'_f (b := decide ((i : Int) ≥ (b.length : Int))) (by simp; omega), ite'_t (inR_t h)]
        simp only [cellI_at (I1_get' hy), List.getElem?_cons_zero, Option.bind_some, asI_s, bindI_s]
        rw [c225, iB', cmpI_drop hi h, next_i hi ha, ih (i + 1) n (by omega) (by omega) (by omega)]
        unfold cmp1
        by_cases h1 : a[i] < b[i]
        · rw [if_pos h1, if_pos h1]; rfl
        · rw [if_neg h1, if_neg h1]
          by_cases h2 : a[i] > b[i]
          · rw [if_pos h2, if_pos h2]; rfl
          · rw [if_neg h2, if_neg h2]; rfl
      · rw [ite'_t (b := decide ((i : Int) ≥ (b.length : Int))) (by simp; omega), List.drop_eq_getElem_cons hi, show b.drop i = [] from List.drop_eq_nil_of_le (by omega)]
        rfl
  exact main a.length 0 (k + 2) (by omega) (by omega) (by omega)
/-- spec.l4Ints -/
theorem c179 (a b : List Int) (hk : a.length < k) (ha : a.length ≤ maxLen) : C (k + 1) 179 [.d (.list 1 (I1 a)), .d (.list 1 (I1 b))] = io (cmpI a b) := by
  rw [F179.run]
  have fin : ∀ (i n : Nat), i ≤ a.length → i ≤ b.length → (¬ i < a.length ∨ ¬ i < b.length) → F179.L2 k (C k) (n + 1) (I1 a) (I1 b) (i : Int) = io (cmpI (a.drop i) (b.drop i)) := by
    intro i n h1 h2 h3
    have e : F179.L2 k (C k) (n + 1) (I1 a) (I1 b) (i : Int) = ite' (decide ((a.length : Int) < (b.length : Int))) (io (-1)) (ite' (decide ((a.length : Int) > (b.length : Int))) (io 1) (io 0)) := by
      rw [F179.L2.succ, I1_len, I1_len]
      by_cases hi : i < a.length
      · rw [ite'_t (lt_t hi), ite'_f (lt_f (by omega))]; rfl
      · rw [ite'_f (lt_f hi)]; rfl
    rw [e]
    rcases Nat.lt_trichotomy a.length b.length with h | h | h
    · obtain rfl : i = a.length := by omega
      rw [ite'_t (by simp; omega), List.drop_eq_nil_of_le (Nat.le_refl _), List.drop_eq_getElem_cons h]
      rfl
    · rw [ite'_f (by simp; omega), ite'_f (by simp; omega), List.drop_eq_nil_of_le (by omega), List.drop_eq_nil_of_le (by omega)]
      rfl
    · obtain rfl : i = b.length := by omega
      rw [ite'_f (by simp; omega), ite'_t (by simp; omega), List.drop_eq_nil_of_le (Nat.le_refl _), List.drop_eq_getElem_cons h]
      rfl
  have main : ∀ (m i n : Nat), i + m = a.length → m < n → i ≤ b.length → F179.L2 k (C k) n (I1 a) (I1 b) (i : Int) = io (cmpI (a.drop i) (b.drop i)) := by
    intro m
    induction m with
    | zero =>
      intro i n hm hn hb
      obtain ⟨n, rfl⟩ : ∃ j, n = j + 1 := ⟨n - 1, by omega⟩
      exact fin i n (by omega) hb (by omega)
    | succ m ih =>
      intro i n hm hn hb
      obtain ⟨n, rfl⟩ : ∃ j, n = j + 1 := ⟨n - 1, by omega⟩
      by_cases h : i < b.length
      · have hi : i < a.length := by omega
        have hx := List.getElem?_eq_getElem hi
        have hy := List.getElem?_eq_getElem h
        rw [F179.L2.succ, I1_len, I1_len, ite'_t (lt_t hi), ite'_t (lt_t h), ite'_t (inR_t hi)]
        simp only [Int.toNat_natCast, cellI_at (I1_get' hx), cellI_at (I1_get' hy), List.getElem?_cons_zero, Option.bind_some, asI_s, bindI_s]
        rw [ite'_t (inR_t h), ite'_t (inR_t hi), ite'_t (inR_t h), next_i hi ha, ih (i + 1) n (by omega) (by omega) (by omega), cmpI_drop hi h]
        by_cases h1 : a[i] < b[i]
        · rw [ite'_t (by simpa using h1), if_pos h1]; rfl
        · rw [ite'_f (by simpa using h1), if_neg h1]
          by_cases h2 : a[i] > b[i]
          · rw [ite'_t (by simpa using h2), if_pos h2]; rfl
          · rw [ite'_f (by simpa using h2), if_neg h2]
      · exact fin i n (by omega) hb (by omega)
  exact main a.length 0 k (by omega) hk (by omega)
def cmpF (x y : Atom) : Int := if x.1 < y.1 then -1 else if x.1 > y.1 then 1 else cmpI x.2 y.2
/-- spec.CompareFacts -/
theorem c144 (x y : Atom) (hk : x.2.length < k) (ha : x.2.length ≤ maxLen) : C (k + 2) 144 [.agg [.d (.int .i64 x.1), .d (.list 1 (I1 x.2))], .agg [.d (.int .i64 y.1), .d (.list 1 (I1 y.2))]] = io (cmpF x y) := by
  rw [F144.run, c179 x.2 y.2 hk ha, iB']
  unfold cmpF
  by_cases h1 : x.1 < y.1
  · rw [ite'_t (by simpa using h1), if_pos h1]; rfl
  · rw [ite'_f (by simpa using h1), if_neg h1]
    by_cases h2 : x.1 > y.1
    · rw [ite'_t (by simpa using h2), if_pos h2]; rfl
    · rw [ite'_f (by simpa using h2), if_neg h2]; rfl
/-- cmp.Or of two -/
theorem c224 (x y : Int) : C (k + 4) 224 [.d (.list 1 [[.int .i64 x], [.int .i64 y]])] = io (if x = 0 then y else x) := by
  rw [F224.run]
  have s0 : ∀ n, F224.L3 (k + 3) (C (k + 3)) (n + 1) 0 [[.int .i64 x], [.int .i64 y]] 2 0 = ite' (x != 0) (io x) (F224.L3 (k + 3) (C (k + 3)) n 0 [[.int .i64 x], [.int .i64 y]] 2 1) := fun n => by rw [F224.L3.succ]; rfl
  have s1 : ∀ n, F224.L3 (k + 3) (C (k + 3)) (n + 1) 0 [[.int .i64 x], [.int .i64 y]] 2 1 = ite' (y != 0) (io y) (F224.L3 (k + 3) (C (k + 3)) n 0 [[.int .i64 x], [.int .i64 y]] 2 2) := fun n => by rw [F224.L3.succ]; rfl
  have s2 : ∀ n, F224.L3 (k + 3) (C (k + 3)) (n + 1) 0 [[.int .i64 x], [.int .i64 y]] 2 2 = io 0 := fun n => by rw [F224.L3.succ]; rfl
  show F224.L3 (k + 3) (C (k + 3)) (k + 2 + 1) 0 [[.int .i64 x], [.int .i64 y]] 2 0 = _
  rw [s0, s1, s2]
  by_cases h : x = 0
  · rw [if_pos h, ite'_f (by simpa using h)]
    by_cases h' : y = 0
    · rw [ite'_f (by simpa using h'), h']
    · rw [ite'_t (by simpa using h')]
  · rw [if_neg h, ite'_t (by simpa using h)]
/-- impl.CompareFacts -/
theorem c169 (x y : Atom) (hk : x.2.length < k) (ha : x.2.length ≤ maxLen) : C (k + 5) 169 [.agg [.d (.int .i64 x.1), .d (.list 1 (I1 x.2))], .agg [.d (.int .i64 y.1), .d (.list 1 (I1 y.2))]] = io (cmpF x y) := by
  rw [F169.run, c225, iB', c226 (k := k + 1) x.2 y.2 (by omega) ha, iB', c224, iB']
  unfold cmpF cmp1
  by_cases h1 : x.1 < y.1
  · rw [if_pos h1, if_pos h1]; rfl
  · rw [if_neg h1, if_neg h1]
    by_cases h2 : x.1 > y.1
    · rw [if_pos h2, if_pos h2]; rfl
    · rw [if_neg h2, if_neg h2]; rfl
/-! ### valid facts -/
def FactB (a : Ovi.Rows) (x : Atom) (b : Bool) : Prop := (b = true → (0 ≤ x.1 ∧ x.1 < (a.length : Int)) ∧ (x.2.length : Int) = ar a x.1) ∧ ∀ k, a.length < k → x.2.length < k → C (k + 6) 173 [.d (.list 3 a), .agg [.d (.int .i64 x.1), .d (.list 1 (I1 x.2))]] = bo b ∧ C (k + 6) 143 [.d (.list 3 a), .agg [.d (.int .i64 x.1), .d (.list 1 (I1 x.2))]] = bo b
theorem factB {a : Ovi.Rows} (ha : Fit Rl (.list 3 a)) (x : Atom) (hI : ∀ z ∈ x.2, inI z) (hx2 : x.2.length ≤ maxLen) : ∃ b, FactB a x b := by
  have hlen := ha.len
  unfold maxLen at hlen
  obtain ⟨b, hb⟩ := rels ha
  have e : ∀ k, a.length < k → C (k + 5) 172 [.d (.list 3 a)] = bo b ∧ C (k + 5) 146 [.d (.list 3 a)] = bo b := fun k hk => hb (k + 2) (by omega)
  cases b with
  | false =>
    refine ⟨false, fun h => (by cases h), fun k hk hx => ?_⟩
    rw [F173.run, F143.run, (e k hk).1, (e k hk).2, bB, bB]
    exact ⟨rfl, rfl⟩
  | true =>
    by_cases hr : 0 ≤ x.1 ∧ x.1 ≤ (a.length : Int) - 1
    · obtain ⟨i, hi⟩ : ∃ i : Nat, x.1 = i := ⟨x.1.toNat, by omega⟩
      have hia : i < a.length := by omega
      obtain ⟨row, hrow, hfr, _⟩ := ha.row hia
      obtain ⟨d0, r0, rfl, f0, h1⟩ := Fits.cons hfr
      obtain ⟨d1, r1, rfl, f1, h1⟩ := Fits.cons h1
      obtain ⟨n, rfl, _⟩ := f1.int
      have hcn : cellI .i64 a ((i : Int)).toNat 1 = some n := by rw [Int.toNat_natCast, cellI_at hrow]; simp [asI_s]
      by_cases hn : ((I1 x.2).length : Int) = n
      · refine ⟨!(x.2.any fun t => !okV t), fun _ => ⟨by omega, by unfold ar; rw [hi, hcn]; rw [I1_len] at hn; exact hn⟩, fun k hk hx => ?_⟩
        rw [F173.run, F143.run, (e k hk).1, (e k hk).2, bB, bB, ite'_nt, ite'_nt, c73, c68, bB, bB, wrap_id (by omega) (by omega), decide_eq_true hr, ite'_nt, ite'_nt, hi, ite'_t (inR_t hia), ite'_t (inR_t hia), hcn]
        simp only [bindI_s]
        rw [ite'_f (by simpa using hn), ite'_f (b := ((I1 x.2).length : Int) != n) (by simpa using hn)]
        have e69 := c163 (k := k + 3) x.2 228 [] (fun t => !okV t) (by omega) hx2 (fun z _ => by
          rw [List.map_nil, F228.run, c165, bB]; rfl)
        rw [e69, bB]
        refine ⟨rfl, ?_⟩
        have := loop_any (xs := x.2) (L := fun m j => F143.L4 (k + 5) (C (k + 5)) m j (i : Int) (I1 x.2)) (stop := fun t => !okV t) (hit := bo false) (fin := bo true)
          (fun m j t ht => by
            have hj := (List.getElem?_eq_some_iff.1 ht).1
            rw [F143.L4.succ, I1_len, ite'_t (lt_t hj), ite'_t (inR_t hj)]
            simp only [Int.toNat_natCast, cellI_at (I1_get' ht), List.getElem?_cons_zero, Option.bind_some, asI_s, bindI_s]
            rw [c157 (hI t (List.mem_of_getElem? ht)), bB, next_i hj hx2]; rfl)
          (fun m => by rw [F143.L4.succ, I1_len, ite'_f (lt_f (by omega))]; rfl) (k + 5) (by omega)
        rw [show F143.L4 (k + 5) (C (k + 5)) (k + 5) 0 (i : Int) (I1 x.2) = _ from this]
        cases x.2.any (fun t => !okV t) <;> rfl
      · refine ⟨false, fun h => (by cases h), fun k hk hx => ?_⟩
        rw [F173.run, F143.run, (e k hk).1, (e k hk).2, bB, bB, ite'_nt, ite'_nt, c73, c68, bB, bB, wrap_id (by omega) (by omega), decide_eq_true hr, ite'_nt, ite'_nt, hi, ite'_t (inR_t hia), ite'_t (inR_t hia), hcn]
        simp only [bindI_s]
        rw [ite'_t (by simpa using hn), ite'_t (b := ((I1 x.2).length : Int) != n) (by simpa using hn)]
        exact ⟨rfl, rfl⟩
    · refine ⟨false, fun h => (by cases h), fun k hk hx => ?_⟩
      rw [F173.run, F143.run, (e k hk).1, (e k hk).2, bB, bB, ite'_nt, ite'_nt, c73, c68, bB, bB, wrap_id (by omega) (by omega), decide_eq_false hr]
      exact ⟨rfl, rfl⟩
def src (a : Ovi.Rows) (x : Atom) : Bool := match a[x.1.toNat]? with
  | some [_, _, .bool b] => b
  | _ => false
theorem src_cell {a : Ovi.Rows} (ha : Fit Rl (.list 3 a)) {x : Atom} (h : 0 ≤ x.1 ∧ x.1 < (a.length : Int)) : inR x.1 a.length = true ∧ cellB a x.1.toNat 2 = some (src a x) := by
  obtain ⟨i, hi⟩ : ∃ i : Nat, x.1 = i := ⟨x.1.toNat, by omega⟩
  have hia : i < a.length := by omega
  obtain ⟨row, hrow, hfr, _⟩ := ha.row hia
  obtain ⟨d0, r0, rfl, f0, h1⟩ := Fits.cons hfr
  obtain ⟨d1, r1, rfl, f1, h1⟩ := Fits.cons h1
  obtain ⟨d2, r2, rfl, f2, h1⟩ := Fits.cons h1
  obtain rfl := Fits.nil h1
  obtain ⟨b, rfl⟩ := f2.bool
  rw [hi]
  refine ⟨inR_t hia, ?_⟩
  rw [Int.toNat_natCast, cellB_at hrow]
  unfold src
  rw [hi, Int.toNat_natCast, hrow]
  rfl
/-- both IsValidInstance answer alike -/
theorem instB {a : Ovi.Rows} (ha : Fit Rl (.list 3 a)) (xs : List Atom) (hI : ∀ x ∈ xs, ∀ z ∈ x.2, inI z) (hs : terms xs + xs.length ≤ 1048576) (hal : a.length ≤ 1048576) : ∃ b, (b = true → xs.length ≤ 30 ∧ ∀ x ∈ xs, (0 ≤ x.1 ∧ x.1 < (a.length : Int)) ∧ (x.2.length : Int) = ar a x.1) ∧ ∀ k, 2000000 ≤ k → C (k + 8) 100 [.agg [.d (.list 3 a), .d (.list 2 (A1 xs))]] = bo b ∧ C (k + 8) 67 [.agg [.d (.list 3 a), .d (.list 2 (A1 xs))]] = bo b := by
  have hmax : (1048576 : Nat) ≤ maxLen := by decide
  have hl : ∀ x ∈ xs, x.2.length ≤ 1048576 := fun x hx => by have := len_terms hx; omega
  obtain ⟨vf, hvf⟩ : ∃ vf : Atom → Bool, ∀ x ∈ xs, FactB a x (vf x) := by
    have : ∀ x : Atom, ∃ b, x ∈ xs → FactB a x b := by
      intro x
      by_cases h : x ∈ xs
      · obtain ⟨b, hb⟩ := factB ha x (hI x h) (by have := hl x h; omega)
        exact ⟨b, fun _ => hb⟩
      · exact ⟨false, fun h' => absurd h' h⟩
    obtain ⟨vf, hv⟩ := Classical.axiomOfChoice this
    exact ⟨vf, fun x hx => hv x hx⟩
  obtain ⟨rb, hrb⟩ := rels ha
  let bad : Nat → Atom → Bool := fun i x => !vf x || ((decide (i > 0) && decide (cmpF (xs.getD (i - 1) x) x ≥ 0)) || (src a x && decide ((nulls x.2).length > 0)))
  have key : ∃ st : Bool, (st = false → ∀ x ∈ xs, vf x = true) ∧ ∀ k, 2000000 ≤ k → F100.L4 (k + 7) (C (k + 7)) (k + 7) (A1 xs) (xs.length : Int) 0 a (A1 xs) = bo (!st) ∧ F67.L2 (k + 7) (C (k + 7)) (k + 7) 0 a (A1 xs) = cond st (bo false) (bo (rb && decide ((xs.length : Int) ≤ 30))) := by
    have s78 : ∀ k, 2000000 ≤ k → ∀ (n i : Nat) x, xs[i]? = some x → F100.L4 (k + 7) (C (k + 7)) (n + 1) (A1 xs) (xs.length : Int) (i : Int) a (A1 xs) = cond (bad i x) (bo false) (F100.L4 (k + 7) (C (k + 7)) n (A1 xs) (xs.length : Int) ((i + 1 : Nat) : Int) a (A1 xs)) ∧
        F67.L2 (k + 7) (C (k + 7)) (n + 1) (i : Int) a (A1 xs) = cond (bad i x) (bo false) (F67.L2 (k + 7) (C (k + 7)) n ((i + 1 : Nat) : Int) a (A1 xs)) := by
      intro k hk n i x hx
      have hi := (List.getElem?_eq_some_iff.1 hx).1
      have hxm := List.mem_of_getElem? hx
      have hxl := hl x hxm
      obtain ⟨hv1, hv2⟩ := hvf x hxm
      obtain ⟨e1, e2⟩ := hv2 (k + 1) (by omega) (by omega)
      have hc0 : cellI .i64 (A1 xs) (i : Int).toNat 0 = some x.1 := by rw [Int.toNat_natCast, cellI_at (A1_get hx)]; simp [asI_s]
      have hc1 : cellL 1 (A1 xs) (i : Int).toNat 1 = some (I1 x.2) := by rw [Int.toNat_natCast, cellL_at (A1_get hx)]; simp [asL_s]
      rw [F100.L4.succ, F67.L2.succ, A1_len, ite'_t (lt_t hi), ite'_t (inR_t hi), ite'_t (lt_t hi), ite'_t (inR_t hi), hc0, hc1]
      simp only [bindI_s, bindL_s]
      rw [e1, e2, bB, bB, next_i hi (m := xs.length) (by omega)]
      cases hvx : vf x with
      | false =>
        have hb : bad i x = true := by simp [bad, hvx]
        rw [hb]
        exact ⟨rfl, rfl⟩
      | true =>
        obtain ⟨g1, g2⟩ := src_cell ha (hv1 hvx).1
        have tail : ∀ (X Y : Option Res) (nu : Bool), nu = decide ((nulls x.2).length > 0) → True := fun _ _ _ _ => trivial
        have n126 := c174 (k := k + 3) x.1 x.2 (hI x hxm) (by omega) hxl
        have n75 := c145 (k := k + 4) x.1 x.2 (hI x hxm) (by omega) hxl
        rw [ite'_nt, ite'_nt, g1, g2, n126, n75]
        simp only [bindB_s, bindR_s, resO_s, resL_d, bindL_s, I1_len]
        have hnu : decide (((nulls x.2).length : Int) > 0) = decide ((nulls x.2).length > 0) := by
          rw [Bool.eq_iff_iff]; simp only [decide_eq_true_eq]; omega
        rw [hnu]
        by_cases h0 : i = 0
        · subst h0
          have hb : bad 0 x = (src a x && decide ((nulls x.2).length > 0)) := by simp [bad, hvx]
          rw [hb]
          cases src a x <;> cases decide ((nulls x.2).length > 0) <;> exact ⟨rfl, rfl⟩
        · have hw : IntKind.i64.wrap ((i : Int) - 1) = ((i - 1 : Nat) : Int) := by rw [wrap_id (by omega) (by omega)]; omega
          have hy : xs[i - 1]? = some xs[i - 1] := List.getElem?_eq_getElem (by omega)
          have hyl := hl _ (List.mem_of_getElem? hy)
          have hd0 : cellI .i64 (A1 xs) ((i - 1 : Nat) : Int).toNat 0 = some (xs[i - 1]).1 := by rw [Int.toNat_natCast, cellI_at (A1_get hy)]; simp [asI_s]
          have hd1 : cellL 1 (A1 xs) ((i - 1 : Nat) : Int).toNat 1 = some (I1 (xs[i - 1]).2) := by rw [Int.toNat_natCast, cellL_at (A1_get hy)]; simp [asL_s]
          have hgt : decide ((i : Int) > 0) = true := by simp; omega
          rw [hgt, hw, hd0, hd1]
          simp only [bindI_s, bindL_s]
          rw [c169 (k := k + 2) xs[i - 1] x (by omega) (by omega), c144 (k := k + 5) xs[i - 1] x (by omega) (by omega), iB', iB', inR_t (i := i - 1) (by omega)]
          have hb : bad i x = (decide (cmpF xs[i - 1] x ≥ 0) || (src a x && decide ((nulls x.2).length > 0))) := by
            simp [bad, hvx, List.getD_eq_getElem?_getD, hy, show i > 0 by omega]
          rw [hb]
          cases decide (cmpF xs[i - 1] x ≥ 0) <;> cases src a x <;> cases decide ((nulls x.2).length > 0) <;> exact ⟨rfl, rfl⟩
    have d78 : ∀ k n, F100.L4 (k + 7) (C (k + 7)) (n + 1) (A1 xs) (xs.length : Int) (xs.length : Int) a (A1 xs) = bo true := fun k n => by rw [F100.L4.succ, ite'_f (lt_f (by omega))]; rfl
    have d74 : ∀ k, 2000000 ≤ k → ∀ n, F67.L2 (k + 7) (C (k + 7)) (n + 1) (xs.length : Int) a (A1 xs) = bo (rb && decide ((xs.length : Int) ≤ 30)) := fun k hk n => by
      rw [F67.L2.succ, A1_len, ite'_f (lt_f (by omega)), (hrb (k + 4) (by omega)).2, bB]
      cases rb <;> rfl
    by_cases hall : ∀ (i : Nat) x, xs[i]? = some x → bad i x = false
    · refine ⟨false, fun _ x hx => ?_, fun k hk => ?_⟩
      · obtain ⟨i, hi⟩ := List.mem_iff_getElem?.1 hx
        have := hall i x hi
        simp only [bad, Bool.or_eq_false_iff, Bool.not_eq_false'] at this
        exact this.1
      · constructor
        · rcases loop_find (L := fun n i => F100.L4 (k + 7) (C (k + 7)) n (A1 xs) (xs.length : Int) i a (A1 xs)) (stop := bad) (hit := fun _ => bo false) (fin := bo true) (fun n i x hx => (s78 k hk n i x hx).1) (d78 k) (k + 7) (by omega) with ⟨i, x, hx, hst, _⟩ | ⟨_, h⟩
          · rw [hall i x hx] at hst; cases hst
          · exact h
        · rcases loop_find (L := fun n i => F67.L2 (k + 7) (C (k + 7)) n i a (A1 xs)) (stop := bad) (hit := fun _ => bo false) (fun n i x hx => (s78 k hk n i x hx).2) (d74 k hk) (k + 7) (by omega) with ⟨i, x, hx, hst, _⟩ | ⟨_, h⟩
          · rw [hall i x hx] at hst; cases hst
          · exact h
    · refine ⟨true, ⟨fun h => (by cases h), fun k hk => ?_⟩⟩
      constructor
      · rcases loop_find (L := fun n i => F100.L4 (k + 7) (C (k + 7)) n (A1 xs) (xs.length : Int) i a (A1 xs)) (stop := bad) (hit := fun _ => bo false) (fin := bo true) (fun n i x hx => (s78 k hk n i x hx).1) (d78 k) (k + 7) (by omega) with ⟨i, x, hx, hst, h⟩ | ⟨h, _⟩
        · exact h
        · exact absurd h hall
      · rcases loop_find (L := fun n i => F67.L2 (k + 7) (C (k + 7)) n i a (A1 xs)) (stop := bad) (hit := fun _ => bo false) (fun n i x hx => (s78 k hk n i x hx).2) (d74 k hk) (k + 7) (by omega) with ⟨i, x, hx, hst, h⟩ | ⟨h, _⟩
        · exact h
        · exact absurd h hall
  obtain ⟨st, hst, hk2⟩ := key
  refine ⟨rb && (decide ((xs.length : Int) ≤ 30) && !st), fun h => ?_, fun k hk => ?_⟩
  · simp only [Bool.and_eq_true, decide_eq_true_eq, Bool.not_eq_true'] at h
    exact ⟨by omega, fun x hx => (hvf x hx).1 (hst h.2.2 x hx)⟩
  · obtain ⟨e1, e2⟩ := hk2 k hk
    constructor
    · rw [F100.run, (hrb (k + 4) (by omega)).1, bB, A1_len, e1]
      cases rb with
      | false => rfl
      | true =>
        rw [ite'_nt]
        by_cases h30 : (xs.length : Int) ≤ 30
        · rw [ite'_f (by simp; omega), decide_eq_true h30]; rfl
        · rw [ite'_t (by simp; omega), decide_eq_false h30]; rfl
    · rw [F67.run, e2]
      cases st <;> cases rb <;> cases decide ((xs.length : Int) ≤ 30) <;> rfl
/-! ### the nulls of an instance -/
def vals (xs : List Atom) : List Int := xs.flatMap fun x => x.2
theorem vals_len (xs : List Atom) : (vals xs).length = terms xs := by simp [vals, terms, List.length_flatMap]
theorem vals_I {xs : List Atom} (hI : ∀ x ∈ xs, ∀ z ∈ x.2, inI z) : ∀ z ∈ vals xs, inI z := by
  intro z hz
  obtain ⟨x, hx, h⟩ := List.mem_flatMap.1 hz
  exact hI x hx z h
end Go.Proofs.YthicohakeljdcaaGreat.Q

/-! YLa -/
namespace Go.Proofs.YthicohakeljdcaaGreat.Q
open Go Ovi
variable {k : Nat}
/-! ### matches -/
theorem I1_c {zs : List Int} {i : Nat} {z : Int} (h : zs[i]? = some z) : cellI .i64 (I1 zs) (i : Int).toNat 0 = some z := by rw [Int.toNat_natCast, cellI_at (I1_get' h)]; simp [asI_s]
theorem LL_get' {l : BL} {i : Nat} {zs : List Int} (h : l[i]? = some zs) : (LL l)[i]? = some [.list 1 (I1 zs)] := by simp [LL, h]
theorem LL_c {l : BL} {i : Nat} {zs : List Int} (h : l[i]? = some zs) : cellL 1 (LL l) (i : Int).toNat 0 = some (I1 zs) := by rw [Int.toNat_natCast, cellL_at (LL_get' h)]; simp [asL_s]
theorem I1_snoc (l : List Int) (z : Int) : I1 l ++ [[D.int .i64 z]] = I1 (l ++ [z]) := by simp [I1]
theorem A1_c0 {xs : List Atom} {i : Nat} {x : Atom} (h : xs[i]? = some x) : cellI .i64 (A1 xs) (i : Int).toNat 0 = some x.1 := by rw [Int.toNat_natCast, cellI_at (A1_get h)]; simp [asI_s]
theorem A1_c1 {xs : List Atom} {i : Nat} {x : Atom} (h : xs[i]? = some x) : cellL 1 (A1 xs) (i : Int).toNat 1 = some (I1 x.2) := by rw [Int.toNat_natCast, cellL_at (A1_get h)]; simp [asL_s]
/-- terms as they have to be -/
def okT (ts : List Int) : Prop := ∀ t ∈ ts, -10 ≤ t ∧ t ≤ 4
theorem cmpI_zero : ∀ (a b : List Int), cmpI a b = 0 ↔ a = b
  | [], [] => by simp [cmpI]
  | [], _ :: _ => by simp [cmpI]
  | _ :: _, [] => by simp [cmpI]
  | x :: xs, y :: ys => by
    unfold cmpI
    by_cases h1 : x < y
    · rw [if_pos h1]
      constructor
      · intro h; omega
      · intro h; cases h; omega
    · rw [if_neg h1]
      by_cases h2 : x > y
      · rw [if_pos h2]
        constructor
        · intro h; omega
        · intro h; cases h; omega
      · rw [if_neg h2, cmpI_zero xs ys]
        have : x = y := by omega
        subst this
        simp
end Go.Proofs.YthicohakeljdcaaGreat.Q

/-! YMa -/
namespace Go.Proofs.YthicohakeljdcaaGreat.Q
open Go Ovi
variable {k : Nat}
/-! ### canonical instances -/
def neg (t : Int) : Int := -1 - t
def inst (x : Atom) : Atom := (x.1, x.2.map neg)
def nv : List Int := [-1, -2, -3, -4, -5]
theorem neg_w {t : Int} (h : -10 ≤ t ∧ t ≤ 4) : IntKind.i64.wrap (-1 - t) = neg t := wrap_id (by omega) (by omega)
theorem neg_ok {t : Int} (h : -10 ≤ t ∧ t ≤ 4) : okV (neg t) = true := by unfold okV neg; rw [decide_eq_true_eq]; omega
theorem neg_in {t : Int} (h : -10 ≤ t ∧ t ≤ 4) : inI (neg t) := by unfold inI neg; omega
theorem nv_at {q : Nat} (h : q < 5) : nv[q]? = some (neg (q : Int)) := by
  match q, h with
  | 0, _ => rfl
  | 1, _ => rfl
  | 2, _ => rfl
  | 3, _ => rfl
  | 4, _ => rfl
def okI (r : Int) (vs : List Int) : Option Res := some [(true, [.d (.int .i64 r), .row 3 1 (I1 vs)]), (false, [.d (.bool true)])]
theorem okI_s {r : Int} {vs : List Int} {f : Int → Ovi.Rows → Bool → Option Res} : (bindR (okI r vs) fun r16 => bindI (resI .i64 2 true 2 r16 0 0) fun n17 => bindL (resO 3 1 2 true 2 r16 0 1) fun l18 => bindB (resB 2 false 1 r16 1 0) fun b19 => f n17 l18 b19) = f r (I1 vs) true := rfl
theorem l97 (ts : List Int) (r : Int) (hT : okT ts) (hz : ts.length ≤ 1048576) : ∀ (m i n : Nat) (acc : List Int), i + m = ts.length → m < n → acc.length ≤ i → F97.L3 (k + 2) (C (k + 2)) n (I1 nv) (I1 ts) (ts.length : Int) (i : Int) 0 [] r (I1 acc) = okI r (acc ++ (ts.drop i).map neg) := by
  have hmax : (1048576 : Nat) ≤ maxLen := by decide
  intro m
  induction m with
  | zero =>
    intro i n acc hm hn ha
    obtain ⟨n, rfl⟩ : ∃ j, n = j + 1 := ⟨n - 1, by omega⟩
    obtain rfl : i = ts.length := by omega
    rw [F97.L3.succ, ite'_f (lt_f (by omega)), List.drop_length, List.map_nil, List.append_nil]
    rfl
  | succ m ih =>
    intro i n acc hm hn ha
    obtain ⟨n, rfl⟩ : ∃ j, n = j + 1 := ⟨n - 1, by omega⟩
    have hi : i < ts.length := by omega
    have hg := List.getElem?_eq_getElem hi
    have ht := hT _ (List.getElem_mem hi)
    have hnx := ih (i + 1) n (acc ++ [neg ts[i]]) (by omega) (by omega) (by rw [List.length_append, List.length_singleton]; omega)
    rw [List.append_assoc, List.singleton_append] at hnx
    rw [F97.L3.succ, ite'_t (lt_t hi), I1_len, ite'_t (inR_t hi), I1_c hg, bindI_s, List.drop_eq_getElem_cons hi, List.map_cons, next_i hi (m := ts.length) (by omega), I1_len]
    have hf : fits (acc.length + [[D.int IntKind.i64 (neg ts[i])]].length) = true := fits_t (by simp only [List.length_cons, List.length_nil]; omega)
    by_cases h0 : ts[i] ≥ 0
    · obtain ⟨q, hq⟩ : ∃ q : Nat, ts[i] = (q : Int) := ⟨ts[i].toNat, by omega⟩
      have hq5 : q < nv.length := by show q < 5; omega
      rw [ite'_t (by simpa using h0), hq, I1_len, ite'_f (decide_eq_false (by omega)), ite'_t (inR_t hq5), I1_c (nv_at hq5), bindI_s, c165 (k := k) (neg q), bB, neg_ok (by omega), ite'_nt]
      rw [hq] at hf hnx
      rw [ite'_t hf, I1_snoc]
      exact hnx
    · rw [ite'_f (by simpa using h0), neg_w ht, c165 (k := k), bB, neg_ok ht, ite'_nt, I1_len, ite'_t hf, I1_snoc]
      exact hnx
/-- impl.Instantiate -/
theorem c97 (x : Atom) (hT : okT x.2) (hz : x.2.length ≤ 1048576) (hk : 2000000 ≤ k) : C (k + 3) 97 [.agg [.d (.int .i64 x.1), .d (.list 1 (I1 x.2))], .d (.list 1 (I1 nv))] = okI x.1 (inst x).2 := by
  rw [F97.run, I1_len]
  exact l97 x.2 x.1 hT hz x.2.length 0 (k + 2) [] (by omega) (by omega) (Nat.le_refl _)
theorem l90 (ts : List Int) (r : Int) (hT : okT ts) (hz : ts.length ≤ 1048576) : ∀ (m i n : Nat) (acc : List Int), i + m = ts.length → m < n → acc.length ≤ i → F90.L3 (k + 3) (C (k + 3)) n (I1 nv) (i : Int) r (I1 ts) 0 [] r (I1 acc) = okI r (acc ++ (ts.drop i).map neg) := by
  have hmax : (1048576 : Nat) ≤ maxLen := by decide
  intro m
  induction m with
  | zero =>
    intro i n acc hm hn ha
    obtain ⟨n, rfl⟩ : ∃ j, n = j + 1 := ⟨n - 1, by omega⟩
    obtain rfl : i = ts.length := by omega
    rw [F90.L3.succ, I1_len, ite'_f (lt_f (by omega)), List.drop_length, List.map_nil, List.append_nil]
    rfl
  | succ m ih =>
    intro i n acc hm hn ha
    obtain ⟨n, rfl⟩ : ∃ j, n = j + 1 := ⟨n - 1, by omega⟩
    have hi : i < ts.length := by omega
    have hg := List.getElem?_eq_getElem hi
    have ht := hT _ (List.getElem_mem hi)
    have hnx := ih (i + 1) n (acc ++ [neg ts[i]]) (by omega) (by omega) (by rw [List.length_append, List.length_singleton]; omega)
    rw [List.append_assoc, List.singleton_append] at hnx
    rw [F90.L3.succ, I1_len, ite'_t (lt_t hi), ite'_t (inR_t hi), I1_c hg, bindI_s, ite'_t (inR_t hi), bindI_s, List.drop_eq_getElem_cons hi, List.map_cons, next_i hi (m := ts.length) (by omega)]
    have hf : fits (acc.length + [[D.int IntKind.i64 (neg ts[i])]].length) = true := fits_t (by simp only [List.length_cons, List.length_nil]; omega)
    by_cases h0 : ts[i] ≥ 0
    · obtain ⟨q, hq⟩ : ∃ q : Nat, ts[i] = (q : Int) := ⟨ts[i].toNat, by omega⟩
      have hq5 : q < nv.length := by show q < 5; omega
      rw [ite'_t (by simpa using h0), ite'_t (inR_t hi), bindI_s, hq, I1_len, ite'_f (decide_eq_false (by omega)), ite'_t (inR_t hi), bindI_s, ite'_t (inR_t hq5), I1_c (nv_at hq5), bindI_s, c157 (k := k) (neg_in (by omega)), bB, neg_ok (by omega), ite'_nt, ite'_t (inR_t hi), bindI_s, ite'_f (decide_eq_false (by omega))]
      rw [hq] at hf hnx
      rw [I1_len, ite'_t hf, I1_snoc]
      exact hnx
    · rw [ite'_f (by simpa using h0), neg_w ht, c157 (k := k) (neg_in ht), bB, neg_ok ht, ite'_nt, ite'_t (inR_t hi), bindI_s, ite'_t (decide_eq_true (by omega)), ite'_f (decide_eq_false (by unfold neg; omega)), I1_len, ite'_t hf, I1_snoc]
      exact hnx
/-- spec.Instantiate -/
theorem c90 (x : Atom) (hT : okT x.2) (hz : x.2.length ≤ 1048576) (hk : 2000000 ≤ k) : C (k + 4) 90 [.agg [.d (.int .i64 x.1), .d (.list 1 (I1 x.2))], .d (.list 1 (I1 nv))] = okI x.1 (inst x).2 := by
  rw [F90.run]
  exact l90 x.2 x.1 hT hz x.2.length 0 (k + 3) [] (by omega) (by omega) (Nat.le_refl _)
/-! ### facts: copied, sorted, put in their place -/
theorem c221 (x : Atom) (hz : x.2.length ≤ 1048576) : C (k + 2) 221 [.agg [.d (.int .i64 x.1), .d (.list 1 (I1 x.2))]] = some [(true, [.d (.int .i64 x.1), .row 3 1 (I1 x.2)])] := by
  have e : C (k + 1) 192 [.d (.list 1 (I1 x.2))] = some [(false, [.row 3 1 (I1 x.2)])] := by
    have : C (k + 1) 192 [.d (.list 1 (I1 x.2))] = cloneP 3 [.d (.list 1 (I1 x.2))] := by kernel_rfl
    rw [this]
    simp only [cloneP, ints_I1]
    rw [show Nat.ble x.2.length 1099511627776 = true from Nat.ble_eq_true_of_le (by omega)]
    rfl
  rw [F221.run, e]
  rfl
theorem A1_snoc (l : List Atom) (x : Atom) : A1 l ++ [[D.int .i64 x.1, D.list 1 (I1 x.2)]] = A1 (l ++ [x]) := by simp [A1]
theorem A1_app (l l' : List Atom) : A1 l ++ A1 l' = A1 (l ++ l') := by simp [A1]
theorem A1_take (l : List Atom) (i : Nat) : (A1 l).take i = A1 (l.take i) := by simp [A1]
theorem A1_drop (l : List Atom) (i : Nat) : (A1 l).drop i = A1 (l.drop i) := by simp [A1]
/-- impl.factsCopy -/
theorem c167 (xs : List Atom) (hx : ∀ x ∈ xs, x.2.length ≤ 1048576) (hl : xs.length ≤ 1048576) (hk : 2000000 ≤ k) : C (k + 3) 167 [.d (.list 2 (A1 xs))] = some [(false, [.frow 118 2 1 (A1 xs)])] := by
  have hmax : (1048576 : Nat) ≤ maxLen := by decide
  rw [F167.run, A1_len]
  have main : ∀ (m i n : Nat), i + m = xs.length → m < n → F167.L3 (k + 2) (C (k + 2)) n (A1 xs) (xs.length : Int) (i : Int) (A1 (xs.take i)) = some [(false, [.frow 118 2 1 (A1 xs)])] := by
    intro m
    induction m with
    | zero =>
      intro i n hm hn
      obtain ⟨n, rfl⟩ : ∃ j, n = j + 1 := ⟨n - 1, by omega⟩
      obtain rfl : i = xs.length := by omega
      rw [F167.L3.succ, ite'_f (lt_f (by omega)), List.take_length]
    | succ m ih =>
      intro i n hm hn
      obtain ⟨n, rfl⟩ : ∃ j, n = j + 1 := ⟨n - 1, by omega⟩
      have hi : i < xs.length := by omega
      have hg := List.getElem?_eq_getElem hi
      have := ih (i + 1) n (by omega) (by omega)
      rw [List.take_succ_eq_append_getElem hi] at this
      rw [F167.L3.succ, ite'_t (lt_t hi), A1_len, ite'_t (inR_t hi), A1_c0 hg, bindI_s, A1_c1 hg, bindL_s, c221 (k := k) xs[i] (hx _ (List.getElem_mem hi))]
      show ite' (fits ((A1 (xs.take i)).length + [[D.int IntKind.i64 (xs[i]).1, D.list 1 (I1 (xs[i]).2)]].length)) (F167.L3 (k + 2) (C (k + 2)) n (A1 xs) (xs.length : Int) (IntKind.i64.wrap ((i : Int) + 1)) (A1 (xs.take i) ++ [[D.int IntKind.i64 (xs[i]).1, D.list 1 (I1 (xs[i]).2)]])) none = _
      rw [ite'_t (fits_t (by rw [A1_len, List.length_take]; simp only [List.length_cons, List.length_nil]; omega)), next_i hi (m := xs.length) (by omega), A1_snoc]
      exact this
  exact main xs.length 0 (k + 2) (by omega) (by omega)
/-- facts, each once, in order -/
def can (xs : List Atom) : List Atom := Lib.compact (sortAtoms xs)
theorem can_len (xs : List Atom) : (can xs).length ≤ xs.length := by
  have := compactA_len (sortAtoms xs)
  rw [sortAtoms_len] at this
  exact this
theorem mem_can (xs : List Atom) (z : Atom) : z ∈ can xs ↔ z ∈ xs := by unfold can; rw [mem_compactA, mem_sortAtoms]
theorem atoms_small {l : List Atom} (hl : l.length ≤ 1048576) (hx : ∀ x ∈ l, x.2.length ≤ 1048576) : (Nat.ble l.length 1099511627776 && l.all fun z => Nat.ble z.2.length 1099511627776) = true := by
  rw [Bool.and_eq_true, List.all_eq_true]
  exact ⟨Nat.ble_eq_true_of_le (by omega), fun z hz => Nat.ble_eq_true_of_le (by have := hx z hz; omega)⟩
theorem can_nodup (xs : List Atom) : (can xs).Nodup := (ssA_compact xs).imp fun {a b} h e => by
  subst e
  rw [swoA.irrefl] at h
  cases h
/-- impl.factsSet -/
theorem c99 (xs : List Atom) (hx : ∀ x ∈ xs, x.2.length ≤ 1048576) (hl : xs.length ≤ 1048576) (hk : 2000000 ≤ k) : C (k + 4) 99 [.d (.list 2 (A1 xs))] = some [(false, [.frow 118 2 1 (A1 (can xs))])] := by
  have e1 : C (k + 3) 168 [.var 0 0, .d (.int .i64 118), .d (.list 2 (A1 xs)), .d (.fn 169 [])] = some [(false, [.frow 118 2 1 (A1 (sortAtoms xs))])] := by
    have : C (k + 3) 168 [.var 0 0, .d (.int .i64 118), .d (.list 2 (A1 xs)), .d (.fn 169 [])] = sortAGP 169 [.var 0 0, .d (.int .i64 118), .d (.list 2 (A1 xs)), .d (.fn 169 [])] := by kernel_rfl
    rw [this]
    unfold sortAGP atomArg
    simp only [atomsOf_A1, Option.bind_some]
    rw [atoms_small hl hx]
    rfl
  have e2 : C (k + 3) 170 [.var 0 0, .d (.int .i64 118), .d (.list 2 (A1 (sortAtoms xs))), .d (.fn 171 [])] = some [(false, [.frow 118 2 1 (A1 (can xs))]), (true, [])] := by
    have : C (k + 3) 170 [.var 0 0, .d (.int .i64 118), .d (.list 2 (A1 (sortAtoms xs))), .d (.fn 171 [])] = compAGP 171 [.var 0 0, .d (.int .i64 118), .d (.list 2 (A1 (sortAtoms xs))), .d (.fn 171 [])] := by kernel_rfl
    rw [this]
    unfold compAGP atomArg
    simp only [atomsOf_A1, Option.bind_some]
    rw [atoms_small (by rw [sortAtoms_len]; exact hl) (fun x h => hx x ((mem_sortAtoms _ _).1 h))]
    have hnd := can_nodup xs
    unfold can at hnd ⊢
    simp only [show Nat.beq 171 171 = true from rfl, cond_true, Option.bind_some, decide_eq_true hnd]
    rfl
  have r0 : ∀ l, resF 118 2 0 1 false 1 [(false, [.frow 118 2 1 l])] 0 0 = some l := fun _ => rfl
  rw [F99.run, c167 xs hx hl hk]
  simp only [bindR_s, resF_s, bindL_s]
  rw [e1]
  simp only [bindR_s, r0, bindL_s]
  rw [e2]
  rfl
theorem F62x {a : Ovi.Rows} {b : Ovi.Rows} {f : Ovi.Rows → Ovi.Rows → Option Res} : (bindR (some [(true, [.row 133 3 a, .frow 118 2 1 b])]) fun r16 => bindL (resO 133 3 1 true 2 r16 0 0) fun l17 => bindL (resF 118 2 1 1 true 2 r16 0 1) fun l18 => f l17 l18) = f a b := rfl
theorem C_prim {k : Nat} {f : FuncId} {p : Args → Option Res} {args : Args} (h : prim f = some p) : C (k + 1) f args = p args := by
  show evCall P hs prim (k + 1) f args = p args
  unfold evCall
  rw [h]
/-- impl.instanceCopy -/
theorem c98 {a : Ovi.Rows} (ha2 : a.length ≤ 1048576) (xs : List Atom) (hx : ∀ x ∈ xs, x.2.length ≤ 1048576) (hl : xs.length ≤ 1048576) (hk : 2000000 ≤ k) : C (k + 4) 98 [.agg [.d (.list 3 a), .d (.list 2 (A1 xs))]] = some [(true, [.row 133 3 a, .frow 118 2 1 (A1 xs)])] := by
  have e : C (k + 3) 166 [.d (.list 3 a)] = some [(false, [.row 133 3 a])] := by
    rw [C_prim (p := cloneZP 133 3) rfl]
    unfold cloneZP
    simp only []
    rw [show Nat.ble (List.length a) 1099511627776 = true from Nat.ble_eq_true_of_le (by omega)]
    rfl
  rw [F98.run, e]
  simp only [bindR_s, resO_s, bindL_s]
  rw [c167 xs hx hl hk]
  rfl
theorem c159 (x : Atom) (hz : x.2.length ≤ 1048576) : C (k + 1) 159 [.agg [.d (.int .i64 x.1), .d (.list 1 (I1 x.2))]] = some [(true, [.d (.int .i64 x.1), .row 3 1 (I1 x.2)])] := by
  have hmax : (1048576 : Nat) ≤ maxLen := by decide
  rw [F159.run, I1_len, ite'_t (fits_t (by omega))]
/-- spec.l5Copy -/
theorem c92 {a : Ovi.Rows} (ha2 : a.length ≤ 1048576) (xs : List Atom) (hx : ∀ x ∈ xs, x.2.length ≤ 1048576) (hl : xs.length ≤ 1048576) (hk : 2000000 ≤ k) : C (k + 3) 92 [.agg [.d (.list 3 a), .d (.list 2 (A1 xs))]] = some [(true, [.row 133 3 a, .frow 118 2 1 (A1 xs)])] := by
  have hmax : (1048576 : Nat) ≤ maxLen := by decide
  rw [F92.run, ite'_t (fits_t (by omega))]
  have main : ∀ (m i n : Nat), i + m = xs.length → m < n → F92.L3 (k + 2) (C (k + 2)) n (i : Int) a (A1 xs) [] [] a (A1 (xs.take i)) = some [(true, [.row 133 3 a, .frow 118 2 1 (A1 xs)])] := by
    intro m
    induction m with
    | zero =>
      intro i n hm hn
      obtain ⟨n, rfl⟩ : ∃ j, n = j + 1 := ⟨n - 1, by omega⟩
      obtain rfl : i = xs.length := by omega
      rw [F92.L3.succ, A1_len, ite'_f (lt_f (by omega)), List.take_length]
    | succ m ih =>
      intro i n hm hn
      obtain ⟨n, rfl⟩ : ∃ j, n = j + 1 := ⟨n - 1, by omega⟩
      have hi : i < xs.length := by omega
      have hg := List.getElem?_eq_getElem hi
      have := ih (i + 1) n (by omega) (by omega)
      rw [List.take_succ_eq_append_getElem hi] at this
      rw [F92.L3.succ, A1_len, ite'_t (lt_t hi), ite'_t (inR_t hi), A1_c0 hg, bindI_s, A1_c1 hg, bindL_s, c159 (k := k + 1) xs[i] (hx _ (List.getElem_mem hi))]
      show ite' (fits ((A1 (xs.take i)).length + [[D.int IntKind.i64 (xs[i]).1, D.list 1 (I1 (xs[i]).2)]].length)) (F92.L3 (k + 2) (C (k + 2)) n (IntKind.i64.wrap ((i : Int) + 1)) a (A1 xs) [] [] a (A1 (xs.take i) ++ [[D.int IntKind.i64 (xs[i]).1, D.list 1 (I1 (xs[i]).2)]])) none = _
      rw [ite'_t (fits_t (by rw [A1_len, List.length_take]; simp only [List.length_cons, List.length_nil]; omega)), next_i hi (m := xs.length) (by omega), A1_snoc]
      exact this
  exact main xs.length 0 (k + 2) (by omega) (by omega)
theorem cmpI_L : ∀ (a b : List Int), cmpI a b = cmpL a b
  | [], [] => rfl
  | [], _ :: _ => rfl
  | _ :: _, [] => rfl
  | x :: xs, y :: ys => by
    unfold cmpI cmpL
    rw [cmpI_L xs ys]
theorem cmpF_A (x y : Atom) : cmpF x y = cmpA x y := by unfold cmpF cmpA; rw [cmpI_L]
theorem cmpF_zero (x y : Atom) : cmpF x y = 0 ↔ x = y := by
  unfold cmpF
  constructor
  · intro h
    by_cases h1 : x.1 < y.1
    · rw [if_pos h1] at h; omega
    · rw [if_neg h1] at h
      by_cases h2 : x.1 > y.1
      · rw [if_pos h2] at h; omega
      · rw [if_neg h2] at h
        exact Prod.ext (by omega) ((cmpI_zero _ _).1 h)
  · rintro rfl
    rw [if_neg (by omega), if_neg (by omega)]
    exact (cmpI_zero _ _).2 rfl
/-- spec.l5Place -/
theorem c158 {a : Ovi.Rows} (xs : List Atom) (f : Atom) (hx : ∀ x ∈ xs, x.2.length ≤ 1048576) (hl : xs.length ≤ 1048576) (hk : 2000000 ≤ k) : ∃ n, C (k + 4) 158 [.agg [.d (.list 3 a), .d (.list 2 (A1 xs))], .agg [.d (.int .i64 f.1), .d (.list 1 (I1 f.2))]] = io n ∧ (n ≥ 0 ↔ f ∈ xs) := by
  have hmax : (1048576 : Nat) ≤ maxLen := by decide
  rw [F158.run]
  have := loop_find (xs := xs) (L := fun n i => F158.L2 (k + 3) (C (k + 3)) n i a (A1 xs) f.1 (I1 f.2)) (stop := fun _ x => decide (x = f)) (hit := fun i => io (i : Int)) (fin := io (-1))
    (fun n i x hxi => by
      have hi := (List.getElem?_eq_some_iff.1 hxi).1
      have hxl := hx x (List.mem_of_getElem? hxi)
      rw [F158.L2.succ, A1_len, ite'_t (lt_t hi), ite'_t (inR_t hi), A1_c0 hxi, bindI_s, A1_c1 hxi, bindL_s, c144 (k := k + 1) x f (by omega) (by omega), iB', next_i hi (m := xs.length) (by omega)]
      have : (cmpF x f == 0) = decide (x = f) := by
        rw [Bool.eq_iff_iff, beq_iff_eq, decide_eq_true_eq]
        exact cmpF_zero x f
      rw [this]; rfl)
    (fun n => by rw [F158.L2.succ, A1_len, ite'_f (lt_f (by omega))]; rfl) (k + 3) (by omega)
  rcases this with ⟨i, x, hxi, hst, e⟩ | ⟨hst, e⟩
  · refine ⟨(i : Int), e, ?_⟩
    simp only [decide_eq_true_eq] at hst
    subst hst
    exact ⟨fun _ => List.mem_of_getElem? hxi, fun _ => by omega⟩
  · refine ⟨-1, e, ?_⟩
    constructor
    · intro h; omega
    · intro h
      obtain ⟨i, hi⟩ := List.mem_iff_getElem?.1 h
      have := hst i f hi
      simp at this
/-- spec.l5Put -/
theorem c91 {a : Ovi.Rows} (xs : List Atom) (f : Atom) (hS : SSA xs) (hx : ∀ x ∈ xs, x.2.length ≤ 1048576) (hf : f.2.length ≤ 1048576) (hl : xs.length ≤ 1000000) (hk : 2000000 ≤ k) :
    ∃ r ws, C (k + 5) 91 [.agg [.d (.list 3 a), .d (.list 2 (A1 xs))], .agg [.d (.int .i64 f.1), .d (.list 1 (I1 f.2))]] = some r ∧ resL 3 1 true 2 r 0 0 = some a ∧ resL 2 1 true 2 r 0 1 = some (A1 ws) ∧ SSA ws ∧ (∀ z, z ∈ ws ↔ z ∈ xs ∨ z = f) ∧ ws.length ≤ xs.length + 1 := by
  have hmax : (1048576 : Nat) ≤ maxLen := by decide
  obtain ⟨n, e77, hn⟩ := c158 (k := k) (a := a) xs f hx (by omega) hk
  rw [F91.run, e77, iB']
  by_cases h0 : n ≥ 0
  · rw [ite'_t (by simpa using h0)]
    have hm := hn.1 h0
    refine ⟨_, xs, rfl, rfl, rfl, hS, fun z => ?_, by omega⟩
    constructor
    · exact fun h => .inl h
    · rintro (h | rfl)
      · exact h
      · exact hm
  · rw [ite'_f (by simpa using h0)]
    have hm : f ∉ xs := fun h => h0 (hn.2 h)
    have ins : ∀ i : Nat, i ≤ xs.length → (∀ j y, j < i → xs[j]? = some y → ltA y f = true) → (∀ y, xs[i]? = some y → ltA y f = false) →
        ∃ r ws, (ite' (inS (i : Int) ((A1 xs).length : Int) (A1 xs).length) (ite' (fits ([[D.int IntKind.i64 f.1, D.list 1 (I1 f.2)]].length + (List.drop (i : Int).toNat (A1 xs)).length)) (ite' (inS (0 : Int) (i : Int) (A1 xs).length) (ite' (fits (List.take (i : Int).toNat (A1 xs)).length) (ite' (fits ((List.take (i : Int).toNat (A1 xs)).length + List.length ([[D.int IntKind.i64 f.1, D.list 1 (I1 f.2)]] ++ List.drop (i : Int).toNat (A1 xs)))) (some ([(true, [RL.d (D.list 3 a), RL.row 118 2 (List.take (i : Int).toNat (A1 xs) ++ ([[D.int IntKind.i64 f.1, D.list 1 (I1 f.2)]] ++ List.drop (i : Int).toNat (A1 xs)))])])) (none)) (none)) (none)) (none)) (none)) = some r ∧ resL 3 1 true 2 r 0 0 = some a ∧ resL 2 1 true 2 r 0 1 = some (A1 ws) ∧ SSA ws ∧ (∀ z, z ∈ ws ↔ z ∈ xs ∨ z = f) ∧ ws.length ≤ xs.length + 1 := by
      intro i hi hlt hge
      rw [Int.toNat_natCast, A1_len, A1_take, A1_drop, ite'_t (by simp only [inS, decide_eq_true_eq]; omega), ite'_t (fits_t (by rw [A1_len, List.length_drop]; simp; omega)), ite'_t (by simp only [inS, decide_eq_true_eq]; omega), ite'_t (fits_t (by rw [A1_len, List.length_take]; omega)), ite'_t (fits_t (by rw [A1_len, List.length_take, List.length_append, A1_len, List.length_drop]; simp; omega))]
      have e : A1 (xs.take i) ++ ([[D.int IntKind.i64 f.1, D.list 1 (I1 f.2)]] ++ A1 (xs.drop i)) = A1 (xs.take i ++ f :: xs.drop i) := by simp [A1]
      rw [e]
      refine ⟨_, xs.take i ++ f :: xs.drop i, rfl, rfl, rfl, ssA_ins hS hm hlt hge, fun z => mem_ins i, ?_⟩
      simp only [List.length_append, List.length_cons, List.length_take, List.length_drop]; omega
    have main : ∀ (m i n : Nat), i + m = xs.length → m < n → (∀ j y, j < i → xs[j]? = some y → ltA y f = true) → ∃ r ws, F91.L4 (k + 4) (C (k + 4)) n (i : Int) a (A1 xs) f.1 (I1 f.2) [] [] = some r ∧ resL 3 1 true 2 r 0 0 = some a ∧ resL 2 1 true 2 r 0 1 = some (A1 ws) ∧ SSA ws ∧ (∀ z, z ∈ ws ↔ z ∈ xs ∨ z = f) ∧ ws.length ≤ xs.length + 1 := by
      intro m
      induction m with
      | zero =>
        intro i n hm' hn' hlt
        obtain ⟨n, rfl⟩ : ∃ j, n = j + 1 := ⟨n - 1, by omega⟩
        obtain rfl : i = xs.length := by omega
        have h0 : decide (((xs.length : Nat) : Int) < ((A1 xs).length : Int)) = false := by rw [A1_len]; exact lt_f (by omega)
        rw [F91.L4.succ, h0, ite'_f rfl, c159 (k := k + 3) f hf]
        exact ins xs.length (Nat.le_refl _) hlt (fun y hy => by rw [List.getElem?_eq_none (Nat.le_refl _)] at hy; cases hy)
      | succ m ih =>
        intro i n hm' hn' hlt
        obtain ⟨n, rfl⟩ : ∃ j, n = j + 1 := ⟨n - 1, by omega⟩
        have hi : i < xs.length := by omega
        have hg := List.getElem?_eq_getElem hi
        have hxl := hx _ (List.getElem_mem hi)
        have h0 : decide ((i : Int) < ((A1 xs).length : Int)) = true := by rw [A1_len]; exact lt_t hi
        have h1 : inR (i : Int) (A1 xs).length = true := by rw [A1_len]; exact inR_t hi
        rw [F91.L4.succ, h0, ite'_t rfl, h1, ite'_t rfl, A1_c0 hg, bindI_s, A1_c1 hg, bindL_s, c144 (k := k + 2) xs[i] f (by omega) (by omega), iB']
        by_cases hc : cmpF xs[i] f < 0
        · rw [ite'_t (by simpa using hc), next_i hi (m := xs.length) (by omega)]
          refine ih (i + 1) n (by omega) (by omega) fun j y hj hy => ?_
          by_cases hji : j = i
          · subst hji
            rw [hg] at hy; cases hy
            unfold ltA
            rw [← cmpF_A, decide_eq_true_eq]; exact hc
          · exact hlt j y (by omega) hy
        · rw [ite'_f (by simpa using hc), c159 (k := k + 3) f hf]
          refine ins i (by omega) hlt fun y hy => ?_
          rw [hg] at hy; cases hy
          unfold ltA
          rw [← cmpF_A, decide_eq_false_iff_not]; exact hc
    exact main xs.length 0 (k + 4) (by omega) (by omega) (fun j y hj => by omega)
end Go.Proofs.YthicohakeljdcaaGreat.Q

/-! YMb -/
namespace Go.Proofs.YthicohakeljdcaaGreat.Q
open Go Ovi
variable {k : Nat}
theorem terms_app (l l' : List Atom) : terms (l ++ l') = terms l + terms l' := by simp [terms]
theorem terms_compact (d : List Atom) : terms (Lib.compact d) ≤ terms d := by
  have key : ∀ m, m ≤ d.length → terms (Lib.compactUpTo d.toArray m) ≤ terms (d.take m) := by
    intro m
    induction m with
    | zero => intro _; simp [Lib.compactUpTo, terms]
    | succ m ih =>
      intro hm
      have h1 := ih (by omega)
      rw [Lib.compactUpTo_succ, terms_app, List.take_succ_eq_append_getElem (show m < d.length by omega), terms_app]
      have e : d.toArray[m]! = d[m] := by rw [getElem!_pos _ m (by simp; omega)]; simp
      by_cases hk : Lib.keeps d.toArray m = true
      · rw [if_pos hk, e]; omega
      · rw [if_neg hk]
        have : terms ([] : List Atom) = 0 := rfl
        omega
  have := key d.length (Nat.le_refl _)
  rw [List.take_length] at this
  exact this
theorem terms_can (l : List Atom) : terms (can l) ≤ terms l := by
  have h1 := terms_compact (sortAtoms l)
  have h2 : terms (sortAtoms l) = terms l := by
    unfold terms
    exact ((List.mergeSort_perm _ _).map _).sum_nat
  unfold can
  omega
theorem terms_inst (xs : List Atom) : terms (xs.map inst) = terms xs := by
  unfold terms
  rw [List.map_map]
  congr 1
  apply List.map_congr_left
  intro x _
  simp [inst]
/-- what both canonical instances are made of -/
def cn (xs : List Atom) : List Atom := can (xs.map inst)
theorem cn_mem {xs : List Atom} {z : Atom} : z ∈ cn xs ↔ z ∈ xs.map inst := mem_can _ _
theorem cn_len (xs : List Atom) : (cn xs).length ≤ xs.length := by have := can_len (xs.map inst); rw [List.length_map] at this; exact this
theorem cn_short {xs : List Atom} (hx : ∀ x ∈ xs, x.2.length ≤ 1048576) : ∀ z ∈ cn xs, z.2.length ≤ 1048576 := by
  intro z hz
  obtain ⟨x, hx', rfl⟩ := List.mem_map.1 (cn_mem.1 hz)
  have := hx x hx'
  simpa [inst] using this
theorem cn_in {xs : List Atom} (hT : ∀ x ∈ xs, okT x.2) : ∀ z ∈ cn xs, ∀ t ∈ z.2, inI t := by
  intro z hz t ht
  obtain ⟨x, hx', rfl⟩ := List.mem_map.1 (cn_mem.1 hz)
  obtain ⟨u, hu, rfl⟩ := List.mem_map.1 ht
  exact neg_in (hT x hx' u hu)
/-- an instance, or none -/
def cr (ib : Bool) (a : Ovi.Rows) (fs : List Atom) : Option Res := cond ib (some [(true, [.frow 133 3 0 a, .frow 118 2 1 (A1 fs)]), (false, [.d (.bool true)])]) (some [(true, [.nil, .nil]), (false, [.d (.bool false)])])
section
variable {a : Ovi.Rows} {xs : List Atom} {ib : Bool}
/-- impl.CanonicalInstance, the second loop -/
theorem l26 (ha : 1 ≤ a.length) (ha2 : a.length ≤ 1048576) (hT : ∀ x ∈ xs, okT x.2) (hx : ∀ x ∈ xs, x.2.length ≤ 1048576) (hl : xs.length ≤ 3) (h64 : ∀ k, 2000000 ≤ k → C (k + 8) 100 [.agg [.d (.list 3 a), .d (.list 2 (A1 (cn xs)))]] = bo ib) (hk : 2000000 ≤ k) :
    F26.L10 (k + 8) (C (k + 8)) (k + 8) a (I1 nv) (A1 xs) (xs.length : Int) 0 [] [] [] = cr ib a (cn xs) := by
  have hmax : (1048576 : Nat) ≤ maxLen := by decide
  have main : ∀ (m i n : Nat), i + m = xs.length → m < n → F26.L10 (k + 8) (C (k + 8)) n a (I1 nv) (A1 xs) (xs.length : Int) (i : Int) [] [] (A1 ((xs.take i).map inst)) = cr ib a (cn xs) := by
    intro m
    induction m with
    | zero =>
      intro i n hm hn
      obtain ⟨n, rfl⟩ : ∃ j, n = j + 1 := ⟨n - 1, by omega⟩
      obtain rfl : i = xs.length := by omega
      have hxi : ∀ x ∈ xs.map inst, x.2.length ≤ 1048576 := fun z hz => cn_short hx z (cn_mem.2 hz)
      have hcl := cn_len xs
      rw [F26.L10.succ, ite'_f (lt_f (by omega)), List.take_length, c99 (k := k + 4) (xs.map inst) hxi (by rw [List.length_map]; omega) (by omega)]
      simp only [bindR_s, resF_s, bindL_s]
      have e62 : C (k + 8) 98 [.agg [.d (.list 3 a), .d (.list 2 (A1 (can (xs.map inst))))]] = some [(true, [.row 133 3 a, .frow 118 2 1 (A1 (can (xs.map inst)))])] := c98 (k := k + 4) ha2 (cn xs) (cn_short hx) (by omega) (by omega)
      rw [e62, F62x]
      have e64 := h64 k hk
      rw [show (C (k + 8) 100 [.agg [.d (.list 3 a), .d (.list 2 (A1 (can (xs.map inst))))]]) = bo ib from e64, bB]
      cases ib <;> rfl
    | succ m ih =>
      intro i n hm hn
      obtain ⟨n, rfl⟩ : ∃ j, n = j + 1 := ⟨n - 1, by omega⟩
      have hi : i < xs.length := by omega
      have hg := List.getElem?_eq_getElem hi
      have hmem := List.getElem_mem hi
      have := ih (i + 1) n (by omega) (by omega)
      rw [List.take_succ_eq_append_getElem hi, List.map_append, List.map_singleton] at this
      rw [F26.L10.succ, ite'_t (lt_t hi), A1_len, ite'_t (inR_t hi), A1_c0 hg, bindI_s, A1_c1 hg, bindL_s, c97 (k := k + 5) xs[i] (hT _ hmem) (hx _ hmem) (by omega), okI_s, ite'_t (fits_t (by rw [A1_len, List.length_map, List.length_take]; simp only [List.length_cons, List.length_nil]; omega)), next_i hi (m := xs.length) (by omega)]
      rw [← this]
      congr 1
      exact A1_snoc _ (inst xs[i])
  exact main xs.length 0 (k + 8) (by omega) (by omega)
theorem c96 (k : Nat) (v : Int) (h : -10 ≤ v ∧ v ≤ 4) : C (k + 1) 96 [.d (.int .i64 v)] = io (neg v) := by rw [F96.run, neg_w h]; rfl
theorem c70 (k : Nat) (v : Int) (h : -10 ≤ v ∧ v ≤ 4) : C (k + 1) 70 [.d (.int .i64 v)] = io (neg v) := by rw [F70.run, neg_w h]; rfl
theorem nv_take {i : Nat} (h : i < 5) : nv.take (i + 1) = nv.take i ++ [neg (i : Int)] := by
  match i, h with
  | 0, _ => rfl
  | 1, _ => rfl
  | 2, _ => rfl
  | 3, _ => rfl
  | 4, _ => rfl
/-- impl.CanonicalInstance, the first loop -/
theorem l26a (b : Ovi.Rows) (q : Ovi.Rows) (hk : 2000000 ≤ k) : F26.L5 (k + 8) (C (k + 8)) (k + 8) a 0 q b [] [] [] [] = F26.L10 (k + 8) (C (k + 8)) (k + 8) a (I1 nv) b (b.length : Int) 0 [] [] [] := by
  have hmax : (1048576 : Nat) ≤ maxLen := by decide
  have main : ∀ (m i n : Nat), i + m = 5 → m < n → F26.L5 (k + 8) (C (k + 8)) n a (i : Int) q b [] [] (I1 (nv.take i)) [] = F26.L10 (k + 8) (C (k + 8)) (k + 8) a (I1 nv) b (b.length : Int) 0 [] [] [] := by
    intro m
    induction m with
    | zero =>
      intro i n hm hn
      obtain ⟨n, rfl⟩ : ∃ j, n = j + 1 := ⟨n - 1, by omega⟩
      obtain rfl : i = 5 := by omega
      rw [F26.L5.succ, ite'_f (by decide)]
      rfl
    | succ m ih =>
      intro i n hm hn
      obtain ⟨n, rfl⟩ : ∃ j, n = j + 1 := ⟨n - 1, by omega⟩
      have hi : i < 5 := by omega
      have := ih (i + 1) n (by omega) (by omega)
      rw [nv_take hi] at this
      rw [F26.L5.succ, ite'_t (decide_eq_true (by omega)), c96 (k + 7) _ (by omega), iB', ite'_t (fits_t (by rw [I1_len, List.length_take]; simp only [List.length_cons, List.length_nil]; omega)), next_i hi (m := 5) (by omega), I1_snoc]
      exact this
  exact main 5 0 (k + 8) (by omega) (by omega)
theorem F54x {r : Res} {a : Ovi.Rows} {b : Ovi.Rows} {f : Ovi.Rows → Ovi.Rows → Option Res} (h1 : resL 3 1 true 2 r 0 0 = some a) (h2 : resL 2 1 true 2 r 0 1 = some b) : (bindR (some r) fun r20 => bindL (resL 3 1 true 2 r20 0 0) fun l87 => bindL (resL 2 1 true 2 r20 0 1) fun l88 => f l87 l88) = f a b := by
  rw [bindR_s, h1, bindL_s, h2, bindL_s]
/-- spec.CanonicalInstance, the second loop -/
theorem l23 (ha2 : a.length ≤ 1048576) (hT : ∀ x ∈ xs, okT x.2) (hx : ∀ x ∈ xs, x.2.length ≤ 1048576) (hl : xs.length ≤ 3) (h55 : ∀ k, 2000000 ≤ k → C (k + 8) 67 [.agg [.d (.list 3 a), .d (.list 2 (A1 (cn xs)))]] = bo ib) (q : Ovi.Rows) (hk : 2000000 ≤ k) :
    F23.L10 (k + 8) (C (k + 8)) (k + 8) (I1 nv) 0 q (A1 xs) [] [] a [] = cr ib a (cn xs) := by
  have hmax : (1048576 : Nat) ≤ maxLen := by decide
  have main : ∀ (m i n : Nat) (fs : List Atom), i + m = xs.length → m < n → SSA fs → (∀ z, z ∈ fs ↔ z ∈ (xs.take i).map inst) → fs.length ≤ i → F23.L10 (k + 8) (C (k + 8)) n (I1 nv) (i : Int) q (A1 xs) [] [] a (A1 fs) = cr ib a (cn xs) := by
    intro m
    induction m with
    | zero =>
      intro i n fs hm hn hS hmem hfl
      obtain ⟨n, rfl⟩ : ∃ j, n = j + 1 := ⟨n - 1, by omega⟩
      obtain rfl : i = xs.length := by omega
      have e : fs = cn xs := by
        refine ssA_eq hS (ssA_compact _) fun z => ?_
        rw [hmem z, List.take_length]
        exact cn_mem.symm
      subst e
      rw [F23.L10.succ, A1_len, ite'_f (lt_f (by omega)), h55 k hk, bB]
      cases ib with
      | false => rfl
      | true =>
        have hcl := cn_len xs
        rw [ite'_nt, c92 (k := k + 5) ha2 (cn xs) (cn_short hx) (by omega) (by omega), F62x]
        rfl
    | succ m ih =>
      intro i n fs hm hn hS hmem hfl
      obtain ⟨n, rfl⟩ : ∃ j, n = j + 1 := ⟨n - 1, by omega⟩
      have hi : i < xs.length := by omega
      have hg := List.getElem?_eq_getElem hi
      have hgm := List.getElem_mem hi
      have hfx : ∀ x ∈ fs, x.2.length ≤ 1048576 := by
        intro z hz
        obtain ⟨x, hx', rfl⟩ := List.mem_map.1 ((hmem z).1 hz)
        have := hx x (List.mem_of_mem_take hx')
        simpa [inst] using this
      obtain ⟨r, ws, e1, e2, e3, e4, e5, e6⟩ := c91 (k := k + 3) (a := a) fs (inst xs[i]) hS hfx (by have := hx _ hgm; simpa [inst] using this) (by omega) (by omega)
      rw [F23.L10.succ, A1_len, ite'_t (lt_t hi), ite'_t (inR_t hi), A1_c0 hg, bindI_s, A1_c1 hg, bindL_s, c90 (k := k + 4) xs[i] (hT _ hgm) (hx _ hgm) (by omega), okI_s]
      rw [show (C (k + 8) 91 [.agg [.d (.list 3 a), .d (.list 2 (A1 fs))], .agg [.d (.int .i64 (xs[i]).1), .d (.list 1 (I1 (inst xs[i]).2))]]) = some r from e1, F54x e2 e3, next_i hi (m := xs.length) (by omega)]
      refine ih (i + 1) n ws (by omega) (by omega) e4 (fun z => ?_) (by omega)
      rw [e5, hmem, List.take_succ_eq_append_getElem hi, List.map_append, List.mem_append, List.map_singleton, List.mem_singleton]
  exact main xs.length 0 (k + 8) [] (by omega) (by omega) (by simp [SSA]) (by simp) (Nat.zero_le _)
theorem l23a (b : Ovi.Rows) (q : Ovi.Rows) (hk : 2000000 ≤ k) : F23.L6 (k + 8) (C (k + 8)) (k + 8) 0 q b [] [] a [] [] = F23.L10 (k + 8) (C (k + 8)) (k + 8) (I1 nv) 0 q b [] [] a [] := by
  have hmax : (1048576 : Nat) ≤ maxLen := by decide
  have main : ∀ (m i n : Nat), i + m = 5 → m < n → F23.L6 (k + 8) (C (k + 8)) n (i : Int) q b [] [] a [] (I1 (nv.take i)) = F23.L10 (k + 8) (C (k + 8)) (k + 8) (I1 nv) 0 q b [] [] a [] := by
    intro m
    induction m with
    | zero =>
      intro i n hm hn
      obtain ⟨n, rfl⟩ : ∃ j, n = j + 1 := ⟨n - 1, by omega⟩
      obtain rfl : i = 5 := by omega
      rw [F23.L6.succ, ite'_f (by decide)]
      rfl
    | succ m ih =>
      intro i n hm hn
      obtain ⟨n, rfl⟩ : ∃ j, n = j + 1 := ⟨n - 1, by omega⟩
      have hi : i < 5 := by omega
      have := ih (i + 1) n (by omega) (by omega)
      rw [nv_take hi] at this
      rw [F23.L6.succ, ite'_t (decide_eq_true (by omega)), c70 (k + 7) _ (by omega), iB', ite'_t (fits_t (by rw [I1_len, List.length_take]; simp only [List.length_cons, List.length_nil]; omega)), next_i hi (m := 5) (by omega), I1_snoc]
      exact this
  exact main 5 0 (k + 8) (by omega) (by omega)
end
end Go.Proofs.YthicohakeljdcaaGreat.Q

/-! YMc -/
namespace Go.Proofs.YthicohakeljdcaaGreat.Q
open Go Ovi
variable {k : Nat}
theorem qOk_of {a : Ovi.Rows} {xs : List Atom} {valid : Atom → Bool} {q : List Int} (hval : ∀ x ∈ xs, valid x = true → (0 ≤ x.1 ∧ x.1 < (a.length : Int)) ∧ (x.2.length : Int) = ar a x.1 ∧ ∀ t ∈ x.2, -10 ≤ t ∧ t ≤ 4) (h : qOk valid xs q = true) :
    (∀ x ∈ xs, okT x.2) ∧ 1 ≤ a.length ∧ xs.length ≤ 3 ∧ (∀ v ∈ q, 0 ≤ v ∧ v ≤ 4) ∧ q.length ≤ 3 := by
  unfold qOk at h
  simp only [Bool.and_eq_true, decide_eq_true_eq, List.all_eq_true] at h
  obtain ⟨⟨⟨h1, h2⟩, h3⟩, h4, h5⟩ := h
  have hvar : ∀ v ∈ q, isVar xs v := fun v hvm => by
    have := h5 v hvm
    unfold vB at this
    exact @of_decide_eq_true _ (Classical.propDecidable _) this
  refine ⟨fun x hx => (hval x hx (h3 x hx)).2.2, ?_, by omega, fun v hvm => ?_, by omega⟩
  · have hl : 0 < xs.length := by omega
    have := (hval _ (List.getElem_mem hl) (h3 _ (List.getElem_mem hl))).1
    omega
  · obtain ⟨g1, x, hx, hz⟩ := hvar v hvm
    have := (hval x hx (h3 x hx)).2.2 v hz
    omega
/-- both CanonicalInstance answer alike -/
theorem canon {a : Ovi.Rows} (ha : Fit Rl (.list 3 a)) (hal : a.length ≤ 1048576) (xs : List Atom) (q : List Int) (hs : terms xs + xs.length ≤ 1048576) (hq : q.length ≤ 1048576) :
    ∃ ib, (ib = true → (∀ x ∈ xs, okT x.2) ∧ xs.length ≤ 3 ∧ (∀ v ∈ q, 0 ≤ v ∧ v ≤ 4) ∧ q.length ≤ 3) ∧ ∀ k, 2000000 ≤ k → C (k + 20) 23 [.d (.list 3 a), .agg [.d (.list 1 (I1 q)), .d (.list 2 (A1 xs))]] = cr ib a (cn xs) ∧ C (k + 20) 26 [.d (.list 3 a), .agg [.d (.list 1 (I1 q)), .d (.list 2 (A1 xs))]] = cr ib a (cn xs) := by
  have hmax : (1048576 : Nat) ≤ maxLen := by decide
  obtain ⟨valid, hval, hv⟩ := valid_ex ha xs (fun x hx => by have := len_terms hx; omega)
  cases hqo : qOk valid xs q with
  | false =>
    refine ⟨false, fun h => (by cases h), fun k hk => ?_⟩
    have e37 := c95 (k := k + 9) (out := q) hv (by omega) hal hs hq
    have e33 := c89 (k := k + 9) (out := q) hv (by omega) hal hs hq
    rw [F23.run, F26.run, e37, e33, bB, bB, hqo, ite'_nf, ite'_nf]
    exact ⟨rfl, rfl⟩
  | true =>
    obtain ⟨g1, g2, g3, g4, g5⟩ := qOk_of hval hqo
    have hx : ∀ x ∈ xs, x.2.length ≤ 1048576 := fun x hx => by have := len_terms hx; omega
    have ht := terms_can (xs.map inst)
    rw [terms_inst] at ht
    have hcl := cn_len xs
    obtain ⟨ib, _, hinst⟩ := instB ha (cn xs) (cn_in g1) (by unfold cn at hcl ⊢; omega) hal
    refine ⟨ib, fun _ => ⟨g1, g3, g4, g5⟩, fun k hk => ?_⟩
    have e37 := c95 (k := k + 9) (out := q) hv (by omega) hal hs hq
    have e33 := c89 (k := k + 9) (out := q) hv (by omega) hal hs hq
    rw [F23.run, F26.run, e37, e33, bB, bB, hqo, ite'_nt, ite'_nt, ite'_t (fits_t (by omega))]
    constructor
    · have h1 := l23a (k := k + 11) (a := a) (A1 xs) (I1 q) (by omega)
      have h2 := l23 (k := k + 11) hal g1 hx g3 (fun k hk => (hinst k hk).2) (I1 q) (by omega)
      exact h1.trans h2
    · have h1 := l26a (k := k + 11) (a := a) (A1 xs) (I1 q) (by omega)
      rw [A1_len] at h1
      have h2 := l26 (k := k + 11) g2 hal g1 hx g3 (fun k hk => (hinst k hk).1) (by omega)
      exact h1.trans h2
end Go.Proofs.YthicohakeljdcaaGreat.Q

/-! YKa -/
namespace Go.Proofs.YthicohakeljdcaaGreat.Q
open Go Ovi
variable {k : Nat}
theorem bne_self (n : Int) : (n != n) = false := by simp
/-- heldIntS after the mark -/
theorem c109 {xs ys : Ovi.Rows} {m m' : Int} (h : mkRows stepInt xs m = some (ys, m')) (h0 : 0 ≤ m) (h1 : m' ≤ 4611686018427387904) (hl : ys.length ≤ 1048576) (hk : 2000000 ≤ k) : C (k + 1) 109 [.d (.list 1 ys), .d (.int .i64 m)] = some [(false, [.d (.int .i64 m')])] := by
  have hmax : (1048576 : Nat) ≤ maxLen := by decide
  obtain ⟨κ, q0, q1, q2, q3⟩ := mkRows_chain h
  rw [F109.run]
  have key : ∀ (a i n : Nat), i + a = ys.length → a < n → F109.L2 k (C k) n ys (κ i) (i : Int) = some [(false, [.d (.int .i64 m')])] := by
    intro a
    induction a with
    | zero =>
      intro i n hm hn
      obtain ⟨n, rfl⟩ : ∃ j, n = j + 1 := ⟨n - 1, by omega⟩
      obtain rfl : i = ys.length := by omega
      rw [F109.L2.succ, ite'_f (lt_f (by omega)), q1]
    | succ a ih =>
      intro i n hm hn
      obtain ⟨n, rfl⟩ : ∃ j, n = j + 1 := ⟨n - 1, by omega⟩
      have hi : i < ys.length := by omega
      obtain ⟨r, r', p1, p2, p3⟩ := q3 i hi
      obtain ⟨z, _, rfl, e⟩ := stepInt_some p3
      have b1 := chain_le stepInt_up q3 (Nat.zero_le i) (by omega)
      have b2 := chain_le stepInt_up q3 (show i + 1 ≤ ys.length by omega) (Nat.le_refl _)
      rw [F109.L2.succ, ite'_t (lt_t hi), ite'_t (inR_t hi)]
      simp only [Int.toNat_natCast, cellI_at p2, List.getElem?_cons_zero, Option.bind_some, asI_s, bindI_s]
      rw [ite'_f (bne_self _), wrap_id (by omega) (by omega), wrap_succ (m := ys.length) (by omega) (by omega) (by omega), show ((i : Int) + 1) = ((i + 1 : Nat) : Int) by omega, ← e]
      exact ih (i + 1) n (by omega) (by omega)
  have := key ys.length 0 k (by omega) (by omega)
  rwa [q0] at this
theorem digit (n : Nat) : bytesD [[D.int .u8 (IntKind.u8.wrap (IntKind.i64.wrap ((48 : Int) + ((n : Int)).tmod 10)))]] = some [UInt8.ofNat (48 + n % 10)] := by
  have h1 : ((n : Int)).tmod 10 = ((n % 10 : Nat) : Int) := by
    rw [Int.tmod_eq_emod_of_nonneg (by omega)]; omega
  have h2 : n % 10 < 10 := Nat.mod_lt _ (by decide)
  rw [h1]
  generalize n % 10 = d at h2
  match d, h2 with
  | 0, _ => rfl
  | 1, _ => rfl
  | 2, _ => rfl
  | 3, _ => rfl
  | 4, _ => rfl
  | 5, _ => rfl
  | 6, _ => rfl
  | 7, _ => rfl
  | 8, _ => rfl
  | 9, _ => rfl
theorem l79 (k : Nat) (call : CallF) : ∀ (f n K : Nat) (acc : List UInt8), f < K → n < 10 ^ f → n ≤ 4611686018427387904 → acc.length + f ≤ 1000 → F103.L4 k call K (n : Int) acc = some [(false, [.d (.str (109 :: digs f n acc))])] := by
  intro f
  induction f with
  | zero =>
    intro n K acc hK hn _ hl
    obtain ⟨K, rfl⟩ : ∃ j, K = j + 1 := ⟨K - 1, by omega⟩
    obtain rfl : n = 0 := by simpa using hn
    rw [F103.L4.succ, ite'_f (by decide), ite'_t (fits_t (by omega))]
    rfl
  | succ f ih =>
    intro n K acc hK hn hn2 hl
    obtain ⟨K, rfl⟩ : ∃ j, K = j + 1 := ⟨K - 1, by omega⟩
    by_cases h0 : n = 0
    · subst h0
      rw [F103.L4.succ, ite'_f (by decide), ite'_t (fits_t (by omega))]
      rfl
    · have hd : IntKind.i64.wrap (((n : Int)).tdiv 10) = ((n / 10 : Nat) : Int) := by
        rw [Int.tdiv_eq_ediv_of_nonneg (by omega), wrap_id (by omega) (by omega)]; omega
      rw [F103.L4.succ, ite'_t (by simp only [decide_eq_true_eq]; omega), digit, bindS_s, hd]
      rw [ite'_t (fits_t (by simp only [List.length_cons, List.length_nil]; omega))]
      have h10 : n / 10 < 10 ^ f := by
        rw [Nat.pow_succ] at hn
        exact Nat.div_lt_of_lt_mul (by omega)
      rw [ih (n / 10) K ([UInt8.ofNat (48 + n % 10)] ++ acc) (by omega) h10 (by omega) (by simp only [List.length_append, List.length_cons, List.length_nil]; omega)]
      simp only [digs, if_neg h0, List.singleton_append]
/-- markText -/
theorem e103 (k : Nat) (call : CallF) (m : Int) (h0 : 0 ≤ m) (h1 : m ≤ 4611686018427387904) (hk : 2000 ≤ k) : evFnK P hs call 103 k Tryz.f103 [.d (.int .i64 m)] = some [(false, [.d (.str (mt m))])] := by
  rw [F103.eq]
  by_cases hm : m ≤ 0
  · rw [ite'_t (by simpa using hm)]
    simp only [mt, if_pos hm]
  · rw [ite'_f (by simpa using hm)]
    obtain ⟨n, rfl⟩ : ∃ n : Nat, m = n := ⟨m.toNat, by omega⟩
    rw [l79 k call 64 n k [] (by omega) (Nat.lt_of_le_of_lt (show n ≤ 4611686018427387904 by omega) (by decide)) (by omega) (by simp)]
    simp only [mt, if_neg hm, Int.toNat_natCast]
theorem c103 (m : Int) (h0 : 0 ≤ m) (h1 : m ≤ 4611686018427387904) (hk : 2000 ≤ k) : C (k + 1) 103 [.d (.int .i64 m)] = some [(false, [.d (.str (mt m))])] := (F103.run k m).trans ((F103.eq k (C k) m).symm.trans (e103 k (C k) m h0 h1 hk))
variable {k : Nat}
theorem stepFact_len {xs ys : Ovi.Rows} {κ : Nat → Int} (h : ∀ i, i < ys.length → ∃ r r', xs[i]? = some r ∧ ys[i]? = some r' ∧ stepFact r (κ i) = some (r', κ (i + 1))) : True := True.intro
/-- heldFactS after the mark -/
theorem c79 {xs ys : Ovi.Rows} {m m' : Int} (h : mkRows stepFact xs m = some (ys, m')) (h0 : 0 ≤ m) (h1 : m' ≤ 4611686018427387904) (hl : ys.length ≤ 1048576) (hin : ∀ r ∈ xs, ∀ z l, r = [.int .i64 z, .list 1 l] → l.length ≤ 1048576) (hk : 2000000 ≤ k) : C (k + 2) 79 [.d (.list 2 ys), .d (.int .i64 m)] = some [(false, [.d (.int .i64 m')])] := by
  have hmax : (1048576 : Nat) ≤ maxLen := by decide
  obtain ⟨κ, q0, q1, q2, q3⟩ := mkRows_chain h
  rw [F79.run]
  have key : ∀ (a i n : Nat), i + a = ys.length → a < n → F79.L2 (k + 1) (C (k + 1)) n ys (κ i) (i : Int) = some [(false, [.d (.int .i64 m')])] := by
    intro a
    induction a with
    | zero =>
      intro i n hm hn
      obtain ⟨n, rfl⟩ : ∃ j, n = j + 1 := ⟨n - 1, by omega⟩
      obtain rfl : i = ys.length := by omega
      rw [F79.L2.succ, ite'_f (lt_f (by omega)), q1]
    | succ a ih =>
      intro i n hm hn
      obtain ⟨n, rfl⟩ : ∃ j, n = j + 1 := ⟨n - 1, by omega⟩
      have hi : i < ys.length := by omega
      obtain ⟨r, r', p1, p2, p3⟩ := q3 i hi
      obtain ⟨z, l, l', rfl, hm1, rfl⟩ := stepFact_some p3
      have b1 := chain_le stepFact_up q3 (Nat.zero_le i) (by omega)
      have b2 := chain_le stepFact_up q3 (show i + 1 ≤ ys.length by omega) (Nat.le_refl _)
      have b3 := mkRows_up stepInt_up hm1
      have b4 := hin _ (List.mem_of_getElem? p1) z l rfl
      rw [F79.L2.succ, ite'_t (lt_t hi), ite'_t (inR_t hi)]
      simp only [Int.toNat_natCast, cellI_at p2, cellL_at p2, List.getElem?_cons_zero, List.getElem?_cons_succ, Option.bind_some, asI_s, asL_s, bindI_s, bindL_s]
      rw [ite'_f (bne_self _), ite'_t (inR_t hi), wrap_id (n := κ i + 1) (by omega) (by omega), c109 hm1 (by omega) (by omega) (by omega) hk]
      simp only [bindR_s, resI_s, bindI_s]
      rw [ite'_f (neg_f (by omega)), wrap_succ (m := ys.length) (by omega) (by omega) (by omega), show ((i : Int) + 1) = ((i + 1 : Nat) : Int) by omega]
      exact ih (i + 1) n (by omega) (by omega)
  have := key ys.length 0 (k + 1) (by omega) (by omega)
  rwa [q0] at this
theorem tmod3 {n : Int} (h : 0 ≤ n) : n.tmod 3 = n % 3 := Int.tmod_eq_emod_of_nonneg h
/-- heldRelationS after the mark -/
theorem c78 {xs ys : Ovi.Rows} {m m' : Int} (h : mkRows (stepRel mt) xs m = some (ys, m')) (h0 : 0 ≤ m) (h1 : m' ≤ 4611686018427387904) (hl : ys.length ≤ 1048576) (hk : 2000000 ≤ k) : C (k + 2) 78 [.d (.list 3 ys), .d (.int .i64 m)] = some [(false, [.d (.int .i64 m')])] := by
  have hmax : (1048576 : Nat) ≤ maxLen := by decide
  obtain ⟨κ, q0, q1, q2, q3⟩ := mkRows_chain h
  rw [F78.run]
  have key : ∀ (a i n : Nat), i + a = ys.length → a < n → F78.L2 (k + 1) (C (k + 1)) n ys (κ i) (i : Int) = some [(false, [.d (.int .i64 m')])] := by
    intro a
    induction a with
    | zero =>
      intro i n hm hn
      obtain ⟨n, rfl⟩ : ∃ j, n = j + 1 := ⟨n - 1, by omega⟩
      obtain rfl : i = ys.length := by omega
      rw [F78.L2.succ, ite'_f (lt_f (by omega)), q1]
    | succ a ih =>
      intro i n hm hn
      obtain ⟨n, rfl⟩ : ∃ j, n = j + 1 := ⟨n - 1, by omega⟩
      have hi : i < ys.length := by omega
      obtain ⟨r, r', p1, p2, p3⟩ := q3 i hi
      obtain ⟨s, z, t, rfl, rfl, e⟩ := stepRel_some p3
      have b1 := chain_le stepRel_up q3 (Nat.zero_le i) (by omega)
      have b2 := chain_le stepRel_up q3 (show i + 1 ≤ ys.length by omega) (Nat.le_refl _)
      rw [F78.L2.succ, ite'_t (lt_t hi), ite'_t (inR_t hi)]
      simp only [Int.toNat_natCast, cellI_at p2, cellS_at p2, cellB_at p2, List.getElem?_cons_zero, List.getElem?_cons_succ, Option.bind_some, asI_s, asS_s, asB_s, bindI_s, bindS_s, bindB_s]
      rw [c103 (κ i) (by omega) (by omega) (by omega)]
      simp only [bindR_s, resS_s, bindS_s, bne_self_eq_false, beq_self_eq_true, Bool.not_true]
      rw [ite'_f rfl, ite'_t (inR_t hi), wrap_id (n := κ i + 1) (by omega) (by omega), wrap_id (n := κ i + 1 + 1) (by omega) (by omega), wrap_id (n := κ i + 1 + 1 + 1) (by omega) (by omega), ite'_f (bne_self _), ite'_t (inR_t hi), tmod3 (by omega)]
      rw [ite'_f (by simp), wrap_succ (m := ys.length) (by omega) (by omega) (by omega), show ((i : Int) + 1) = ((i + 1 : Nat) : Int) by omega, ← e]
      exact ih (i + 1) n (by omega) (by omega)
  have := key ys.length 0 (k + 1) (by omega) (by omega)
  rwa [q0] at this
/-- heldInstance after the mark -/
theorem c18 {a b a' b' : Ovi.Rows} {m m1 m' : Int} (h1 : mkRows (stepRel mt) a m = some (a', m1)) (h2 : mkRows stepFact b m1 = some (b', m')) (h0 : 0 ≤ m) (hb : m' ≤ 4611686018427387904) (hl : a'.length ≤ 1048576) (hl2 : b'.length ≤ 1048576) (hin : ∀ r ∈ b, ∀ z l, r = [.int .i64 z, .list 1 l] → l.length ≤ 1048576) (hk : 2000000 ≤ k) : C (k + 3) 18 [.agg [.d (.list 3 a'), .d (.list 2 b')], .d (.int .i64 m)] = some [(false, [.d (.int .i64 m')])] := by
  have u1 := (mkRows_up stepRel_up h1).1
  have u2 := (mkRows_up stepFact_up h2).1
  rw [F18.run, c78 h1 h0 (by omega) hl hk]
  simp only [bindR_s, resI_s, bindI_s]
  rw [ite'_f (neg_f (by omega)), c79 h2 (by omega) hb hl2 hin hk]
  simp only [bindR_s, resI_s, bindI_s]
  rw [ite'_f (neg_f (by omega))]
variable {k : Nat}
theorem sum_const {α : Type} (c : Nat) : ∀ l : List α, (l.map fun _ => c).sum = c * l.length
  | [] => rfl
  | x :: r => by simp only [List.map_cons, List.sum_cons, List.length_cons, sum_const c r, Nat.mul_add]; omega
theorem intMark (zs : List Int) (m : Int) : ∃ ys, mkRows stepInt (I1 zs) m = some (ys, m + zs.length) := by
  obtain ⟨ys, h⟩ := mkRows_total (step := stepInt) (c := fun _ => 1) (xs := I1 zs) (fun r hr k => by
    obtain ⟨z, _, rfl⟩ := List.mem_map.1 hr
    exact ⟨_, rfl⟩) m
  refine ⟨ys, ?_⟩
  rw [h, sum_const, I1_len, Nat.one_mul]
theorem relMark {a : Ovi.Rows} (ha : Fit Rl (.list 3 a)) (m : Int) : ∃ ys, mkRows (stepRel mt) a m = some (ys, m + 3 * a.length) := by
  obtain ⟨ys, h⟩ := mkRows_total (step := stepRel mt) (c := fun _ => 3) (xs := a) (fun r hr k => by
    unfold Rl at ha
    simp only [Fit] at ha
    obtain ⟨x0, r0, rfl, h0, hf0⟩ := Fits.cons (ha.2.2 r hr)
    obtain ⟨x1, r1, rfl, h1, hf1⟩ := Fits.cons hf0
    obtain ⟨x2, r2, rfl, h2, hf2⟩ := Fits.cons hf1
    obtain rfl := Fits.nil hf2
    obtain ⟨s, rfl, _⟩ := h0.str
    obtain ⟨z, rfl, _⟩ := h1.int
    obtain ⟨t, rfl⟩ := h2.bool
    exact ⟨[.str (mt k), .int .i64 (k + 1), .bool ((k + 1 + 1) % 3 == 0)], by simp only [stepRel, Option.some.injEq, Prod.mk.injEq, true_and]; omega⟩) m
  refine ⟨ys, ?_⟩
  rw [h, sum_const]
  simp only [Option.some.injEq, Prod.mk.injEq, true_and]
  omega
theorem factMark (xs : List Atom) (m : Int) : ∃ ys, mkRows stepFact (A1 xs) m = some (ys, m + (xs.length + terms xs : Nat)) := by
  obtain ⟨ys, h⟩ := mkRows_total (step := stepFact) (c := fun r => match r with | [_, .list _ l] => 1 + l.length | _ => 0) (xs := A1 xs) (fun r hr k => by
    obtain ⟨x, _, rfl⟩ := List.mem_map.1 hr
    obtain ⟨ys, h⟩ := intMark x.2 (k + 1)
    refine ⟨[.int .i64 k, .list 1 ys], ?_⟩
    simp only [stepFact, h, Option.map_some, I1_len, Option.some.injEq, Prod.mk.injEq, true_and]
    omega) m
  refine ⟨ys, ?_⟩
  rw [h]
  congr 2
  have : ((A1 xs).map fun r => match r with | [_, .list _ l] => 1 + l.length | _ => 0).sum = xs.length + terms xs := by
    clear h
    induction xs with
    | nil => rfl
    | cons x r ih =>
      simp only [A1, List.map_cons, List.sum_cons, List.length_cons, terms, I1_len] at ih ⊢
      omega
  rw [this]
/-- the marks as the machine calls them -/
theorem e17 {a f a' f' : Ovi.Rows} {m1 m2 : Int} (h1 : mkRows (stepRel mt) a 1 = some (a', m1)) (h2 : mkRows stepFact f m1 = some (f', m2)) (hb : m2 ≤ 4611686018427387904) : C (k + 1) 17 [.var 0 0, .d (.bool true), .d (.int .i64 1), .d (.int .i64 ((133 : Nat) : Int)), .d (.list 3 a), .d (.int .i64 ((118 : Nat) : Int)), .d (.list 2 f)] = some [(false, [.row 133 3 a']), (false, [.row 118 2 f']), (false, [.d (.int .i64 m2)])] := by
  rw [C_prim (p := markP true (mkAg (stepInst mt))) rfl]
  have hs : stepInst mt [.list 3 a, .list 2 f] 1 = some ([.list 3 a', .list 2 f'], m2) := by
    simp only [stepInst, h1, Option.bind_some, h2, Option.map_some]
  have hp : parseM [.d (.int .i64 ((133 : Nat) : Int)), .d (.list 3 a), .d (.int .i64 ((118 : Nat) : Int)), .d (.list 2 f)] = some [.row 133 3 a, .row 118 2 f] := rfl
  have hm : mkAg (stepInst mt) [.row 133 3 a, .row 118 2 f] 1 = some ([.row 133 3 a', .row 118 2 f'], m2) := by
    simp only [mkAg, List.map_cons, List.map_nil, toD, hs, Option.map_some, ofD]
  simp only [markP]
  rw [show (true == true && decide ((0 : Int) ≤ 1)) = true from rfl, cond_true, hp]
  simp only [Option.bind_some, hm, decide_eq_true hb, cond_true]
  rfl
theorem dep_rel {a : Ovi.Rows} (ha : Fit Rl (.list 3 a)) : depR 0 a = true := by
  unfold Rl at ha
  simp only [Fit] at ha
  refine List.all_eq_true.2 fun r hr => ?_
  obtain ⟨x0, r0, rfl, h0, hf0⟩ := Fits.cons (ha.2.2 r hr)
  obtain ⟨x1, r1, rfl, h1, hf1⟩ := Fits.cons hf0
  obtain ⟨x2, r2, rfl, h2, hf2⟩ := Fits.cons hf1
  obtain rfl := Fits.nil hf2
  obtain ⟨s, rfl, _⟩ := h0.str
  obtain ⟨z, rfl, _⟩ := h1.int
  obtain ⟨t, rfl⟩ := h2.bool
  rfl
theorem dep_facts (xs : List Atom) : depR 1 (A1 xs) = true := by
  refine List.all_eq_true.2 fun r hr => ?_
  obtain ⟨x, _, rfl⟩ := List.mem_map.1 hr
  simp only [List.all_cons, List.all_nil, Bool.and_true, depD, Bool.true_and, List.all_eq_true]
  intro r hr y hy
  obtain ⟨z, _, rfl⟩ := List.mem_map.1 hr
  simp only [List.mem_singleton] at hy
  subst hy
  rfl
end Go.Proofs.YthicohakeljdcaaGreat.Q

/-! YMd -/
namespace Go.Proofs.YthicohakeljdcaaGreat.Q
open Go Ovi
variable {k : Nat}
theorem e29 {a a' : Ovi.Rows} {m1 : Int} (h1 : mkRows (stepRel mt) a 1 = some (a', m1)) (hb : m1 ≤ 4611686018427387904) : C (k + 1) 29 [.var 0 0, .d (.bool false), .d (.int .i64 1), .d (.int .i64 ((133 : Nat) : Int)), .d (.list 3 a)] = some [(false, [.row 133 3 a']), (false, [.d (.int .i64 m1)])] := by
  rw [C_prim (p := markP false (mkLs 3 (mkRows (stepRel mt)))) rfl]
  have hp : parseM [.d (.int .i64 ((133 : Nat) : Int)), .d (.list 3 a)] = some [.row 133 3 a] := rfl
  have hm : mkLs 3 (mkRows (stepRel mt)) [.row 133 3 a] 1 = some ([.row 133 3 a'], m1) := by
    simp only [mkLs, show Nat.beq 3 3 = true from rfl, cond_true, h1, Option.map_some]
  simp only [markP]
  rw [show (false == false && decide ((0 : Int) ≤ 1)) = true from rfl, cond_true, hp]
  simp only [Option.bind_some, hm, decide_eq_true hb, cond_true]
  rfl
theorem e30 {a f a' f' : Ovi.Rows} {m m1 m2 : Int} (h1 : mkRows stepInt a m = some (a', m1)) (h2 : mkRows stepFact f m1 = some (f', m2)) (h0 : 0 ≤ m) (hb : m2 ≤ 4611686018427387904) : C (k + 1) 30 [.var 0 0, .d (.bool true), .d (.int .i64 m), .d (.int .i64 ((3 : Nat) : Int)), .d (.list 1 a), .d (.int .i64 ((130 : Nat) : Int)), .d (.list 2 f)] = some [(false, [.row 3 1 a']), (false, [.row 130 2 f']), (false, [.d (.int .i64 m2)])] := by
  rw [C_prim (p := markP true (mkAg stepQuery)) rfl]
  have hs : stepQuery [.list 1 a, .list 2 f] m = some ([.list 1 a', .list 2 f'], m2) := by
    simp only [stepQuery, h1, Option.bind_some, h2, Option.map_some]
  have hp : parseM [.d (.int .i64 ((3 : Nat) : Int)), .d (.list 1 a), .d (.int .i64 ((130 : Nat) : Int)), .d (.list 2 f)] = some [.row 3 1 a, .row 130 2 f] := rfl
  have hm : mkAg stepQuery [.row 3 1 a, .row 130 2 f] m = some ([.row 3 1 a', .row 130 2 f'], m2) := by
    simp only [mkAg, List.map_cons, List.map_nil, toD, hs, Option.map_some, ofD]
  simp only [markP]
  rw [show (true == true && decide ((0 : Int) ≤ m)) = true by rw [decide_eq_true h0]; rfl, cond_true, hp]
  simp only [Option.bind_some, hm, decide_eq_true hb, cond_true]
  rfl
theorem dep_ints (zs : List Int) : depR 0 (I1 zs) = true := by
  refine List.all_eq_true.2 fun r hr => ?_
  obtain ⟨x, _, rfl⟩ := List.mem_map.1 hr
  rfl
theorem atoms_fit {xs : List Atom} (hl : xs.length ≤ maxLen) (h : ∀ x ∈ xs, inI x.1 ∧ x.2.length ≤ maxLen ∧ ∀ z ∈ x.2, inI z) : Fit (.list [.int .i64, .list [.int .i64]]) (.list 2 (A1 xs)) := by
  have wf : ∀ z, inI z → (Lit.int IntKind.i64 z).wf = true := fun z hz => by
    unfold inI at hz
    simp only [Lit.wf, IntKind.min, IntKind.max, IntKind.signed, IntKind.bits, Bool.and_eq_true, decide_eq_true_eq]
    simpa using hz
  simp only [Fit]
  refine ⟨rfl, by rw [A1_len]; exact hl, fun r hr => ?_⟩
  obtain ⟨x, hx, rfl⟩ := List.mem_map.1 hr
  obtain ⟨p1, p2, p3⟩ := h x hx
  simp only [Fits, Fit]
  refine ⟨⟨trivial, wf _ p1⟩, ⟨rfl, by rw [I1_len]; exact p2, fun r hr => ?_⟩, trivial⟩
  obtain ⟨z, hz, rfl⟩ := List.mem_map.1 hr
  simp only [Fits, Fit]
  exact ⟨⟨trivial, wf _ (p3 z hz)⟩, trivial⟩
theorem law5n (call : CallF) (k : Nat) {a b c : Ovi.Rows} {n : Int}
    (t21 : call 21 [.d (.list 3 a), .d (.int .i64 1048576)] = some [(false, [.d (.int .i64 n)])]) (hn : decide (n < 0) = true) :
    evFnK P hs call (5 : FuncId) k Tryz.f5 [.s 3 a, .agg [.s 1 b, .s 2 c]] = bo true := by
  rw [F5.eq, t21, bindR_s, resI_s, bindI_s, ite'_t hn]
  rfl
theorem law5m (call : CallF) (k : Nat) {a b c : Ovi.Rows} {n n2 : Int}
    (t21 : call 21 [.d (.list 3 a), .d (.int .i64 1048576)] = some [(false, [.d (.int .i64 n)])]) (hn : decide (n < 0) = false)
    (t22 : call 22 [.agg [.d (.list 1 b), .d (.list 2 c)], .d (.int .i64 n)] = some [(false, [.d (.int .i64 n2)])]) (hn2 : decide (n2 < 0) = true) :
    evFnK P hs call (5 : FuncId) k Tryz.f5 [.s 3 a, .agg [.s 1 b, .s 2 c]] = bo true := by
  rw [F5.eq, t21, bindR_s, resI_s, bindI_s, ite'_f hn, t22, bindR_s, resI_s, bindI_s, ite'_t hn2]
  rfl
theorem law5q (call : CallF) (k : Nat) {a b c a' b' c' U V U' V' : Ovi.Rows} {g : Bool} {n n2 z1 z2 z3 : Int} {X24 X25 R X29 X30 X17 : Res}
    (t21 : call 21 [.d (.list 3 a), .d (.int .i64 1048576)] = some [(false, [.d (.int .i64 n)])]) (hn : decide (n < 0) = false)
    (t22 : call 22 [.agg [.d (.list 1 b), .d (.list 2 c)], .d (.int .i64 n)] = some [(false, [.d (.int .i64 n2)])]) (hn2 : decide (n2 < 0) = false)
    (t24 : call 24 [.d (.list 3 a)] = some X24) (x0 : resO 133 3 1 false 1 X24 0 0 = some a)
    (t25 : call 25 [.agg [.d (.list 1 b), .d (.list 2 c)]] = some X25) (x1 : resO 3 1 1 true 2 X25 0 0 = some b) (x2 : resF 130 2 1 1 true 2 X25 0 1 = some c)
    (t23 : call 23 [.d (.list 3 a), .agg [.d (.list 1 b), .d (.list 2 c)]] = some R) (t26 : call 26 [.d (.list 3 a), .agg [.d (.list 1 b), .d (.list 2 c)]] = some R)
    (r0 : resF 133 3 0 2 true 2 R 0 0 = some U) (r1 : resF 118 2 1 2 true 2 R 0 1 = some V) (r2 : resB 2 false 1 R 1 0 = some g)
    (d1 : depR 0 a = true) (d2 : depR 0 b = true) (d3 : depR 1 c = true) (d4 : depR 0 U = true) (d5 : depR 1 V = true)
    (t16 : call 16 [.agg [.d (.list 3 U), .d (.list 2 V)], .agg [.d (.list 3 U), .d (.list 2 V)]] = some [(false, [.d (.bool true)])])
    (t27 : call 27 [.d (.list 3 a), .d (.list 3 a)] = some [(false, [.d (.bool true)])])
    (t28 : call 28 [.agg [.d (.list 1 b), .d (.list 2 c)], .agg [.d (.list 1 b), .d (.list 2 c)]] = some [(false, [.d (.bool true)])])
    (m29 : call 29 [.var 0 0, .d (.bool false), .d (.int .i64 1), .d (.int .i64 133), .d (.list 3 a)] = some X29)
    (v0 : resO 133 3 2 false 1 X29 0 0 = some a') (v1 : resI .i64 2 false 1 X29 1 0 = some z1)
    (m30 : call 30 [.var 0 0, .d (.bool true), .d (.int .i64 z1), .d (.int .i64 3), .d (.list 1 b), .d (.int .i64 130), .d (.list 2 c)] = some X30)
    (w0 : resO 3 1 3 false 1 X30 0 0 = some b') (w1 : resO 130 2 3 false 1 X30 1 0 = some c') (w2 : resI .i64 3 false 1 X30 2 0 = some z2) (hz2 : 0 ≤ z2)
    (m17 : call 17 [.var 0 0, .d (.bool true), .d (.int .i64 1), .d (.int .i64 133), .d (.list 3 U), .d (.int .i64 118), .d (.list 2 V)] = some X17)
    (u0 : resO 133 3 3 false 1 X17 0 0 = some U') (u1 : resO 118 2 3 false 1 X17 1 0 = some V') (u2 : resI .i64 3 false 1 X17 2 0 = some z3) (hz3 : 0 ≤ z3)
    (t18 : call 18 [.agg [.d (.list 3 U'), .d (.list 2 V')], .d (.int .i64 1)] = some [(false, [.d (.int .i64 z3)])]) :
    evFnK P hs call (5 : FuncId) k Tryz.f5 [.s 3 a, .agg [.s 1 b, .s 2 c]] = bo true := by
  have n1 : decide (z2 < 0) = false := by simp only [decide_eq_false_iff_not]; omega
  have n3 : decide (z3 < 0) = false := by simp only [decide_eq_false_iff_not]; omega
  have n4 : (z3 != z3) = false := bne_self _
  have n5 : (!g == g) = false := by cases g <;> rfl
  have tt : (!true) = false := rfl
  have i0 : ∀ (x y : Option Res), ite' false x y = y := fun _ _ => rfl
  have i1 : ∀ (x y : Option Res), ite' true x y = x := fun _ _ => rfl
  rw [F5.eq, t21, bindR_s, resI_s, bindI_s, hn, i0, t22, bindR_s, resI_s, bindI_s, hn2, i0]
  simp only [t24, bindR_s, x0, bindL_s, t25, x1, x2, t23, t26, r0, r1, r2, bindB_s, d1, d2, d3, d4, d5, i1]
  simp only [t16, bindR_s, resB_s, bindB_s, tt, i0, n5, t27, t28]
  rw [m29]
  simp only [bindR_s, v0, v1, bindL_s, bindI_s, i1]
  rw [m30]
  simp only [bindR_s, w0, w1, w2, bindL_s, bindI_s, n1, i0, t16, resB_s, bindB_s, tt, n5, d1, d2, d3, d4, d5, i1]
  rw [m17]
  simp only [bindR_s, u0, u1, u2, bindL_s, bindI_s, t18, resI_s, n3, n4, i0, t16, resB_s, bindB_s, tt, n5]
  rfl
set_option maxRecDepth 1000000 in
theorem law5 (hk : 3000000 ≤ k) {a b c : Ovi.Rows} (h1 : Fit Rl (.list 3 a)) (h2 : Fit In1 (.list 1 b)) (h3 : Fit At (.list 2 c)) : C k 5 [.s 3 a, .agg [.s 1 b, .s 2 c]] = bo true := by
  obtain ⟨k, rfl⟩ : ∃ j, k = j + 22 := ⟨k - 22, by omega⟩
  have hs5 : C (k + 21 + 1) 5 [.s 3 a, .agg [.s 1 b, .s 2 c]] = evFnK P hs (C (k + 21)) 5 (k + 21) Tryz.f5 [.s 3 a, .agg [.s 1 b, .s 2 c]] := by kernel_rfl
  rw [hs5]
  have t21 := c21 (k := k + 21) (by omega) h1 (left := 1048576) (by omega) (by omega)
  rcases szT_cases 1048576 (szD (.list 3 a)) with ⟨q1, e1⟩ | ⟨q1, e1⟩ <;> rw [e1] at t21
  rotate_left
  · exact law5n _ _ t21 neg_t
  have z1 : szD (.list 3 a) ≤ 1048576 := by omega
  have t22 := c22 (k := k + 21) (by omega) h2 h3 (left := 1048576 - ((szD (.list 3 a) : Nat) : Int)) (by omega) (by omega)
  rcases szT_cases (1048576 - ((szD (.list 3 a) : Nat) : Int)) (szC [.list 1 b, .list 2 c]) with ⟨q2, e2⟩ | ⟨q2, e2⟩ <;> rw [e2] at t22
  rotate_left
  · exact law5m _ _ t21 (neg_f (by omega)) t22 neg_t
  have p2 := q2
  simp only [szC] at p2
  have z2 : szD (.list 1 b) ≤ 1048576 := by omega
  have z3 : szD (.list 2 c) ≤ 1048576 := by omega
  have t24 := c24 (k := k + 21) (by omega) h1 z1
  have t25 := c25 (k := k + 21) (by omega) h2 h3 z2 z3
  have t27 := c27 (k := k + 21) (by omega) h1 z1
  have t28 := c28 (k := k + 21) (by omega) h2 h3 z2 z3
  obtain ⟨xs, rfl, hX⟩ := h3.atoms'
  obtain ⟨q, rfl⟩ := h2.ints
  have y2 := z2
  have y3 := z3
  rw [sz_atoms] at y3
  rw [sz_ints] at y2
  have ya := Nat.le_trans sz_rels z1
  have hmax : (1048576 : Nat) ≤ maxLen := by decide
  obtain ⟨ib, hib, hcan⟩ := canon h1 ya xs q (by omega) y2
  obtain ⟨t23, t26⟩ := hcan (k + 1) (by omega)
  obtain ⟨R, U, ys, hR, hU, hV, s1, s2, s3, s4, r0, r1, r2⟩ : ∃ (R : Res) (U : Ovi.Rows) (ys : List Atom), cr ib a (cn xs) = some R ∧ Fit Rl (.list 3 U) ∧ Fit (.list [.int .i64, .list [.int .i64]]) (.list 2 (A1 ys)) ∧ szD (.list 3 U) ≤ 1048576 ∧ szD (.list 2 (A1 ys)) ≤ 1048576 ∧ U.length ≤ 1048576 ∧ ys.length + terms ys ≤ 1048576 ∧
      resF 133 3 0 2 true 2 R 0 0 = some U ∧ resF 118 2 1 2 true 2 R 0 1 = some (A1 ys) ∧ resB 2 false 1 R 1 0 = some ib := by
    cases ib with
    | false => exact ⟨_, [], [], rfl, by unfold Rl; simp [Fit], by simp [Fit, A1], by simp [szD, szR], by simp [szD, szR, A1], by simp, by simp [terms], rfl, rfl, rfl⟩
    | true =>
      obtain ⟨g1, g3, _, _⟩ := hib rfl
      have ht := terms_can (xs.map inst)
      rw [terms_inst] at ht
      have hcl := cn_len xs
      have hin := cn_in g1
      have hle : (cn xs).length + terms (cn xs) ≤ 1048576 := by unfold cn at hcl ⊢; omega
      refine ⟨_, a, cn xs, rfl, h1, atoms_fit (by omega) (fun z hz => ⟨?_, ?_, hin z hz⟩), z1, by rw [sz_atoms]; exact hle, ya, hle, rfl, rfl, rfl⟩
      · obtain ⟨x, hx, rfl⟩ := List.mem_map.1 (cn_mem.1 hz)
        exact (hX x hx).1
      · have := len_terms hz
        omega
  rw [hR] at t23 t26
  have t16 := c16 (k := k + 21) (by omega) hU hV s1 s2
  -- the marks
  have h133 : ((133 : Nat) : Int) = 133 := rfl
  have h118 : ((118 : Nat) : Int) = 118 := rfl
  have h130 : ((130 : Nat) : Int) = 130 := rfl
  have h3' : ((3 : Nat) : Int) = 3 := rfl
  obtain ⟨a', ha'⟩ := relMark h1 1
  have m29 := e29 (k := k + 20) ha' (by omega)
  rw [h133] at m29
  obtain ⟨b', hb'⟩ := intMark q (1 + 3 * (a.length : Int))
  obtain ⟨c', hc'⟩ := factMark xs (1 + 3 * (a.length : Int) + q.length)
  have m30 := e30 (k := k + 20) hb' hc' (by omega) (by omega)
  rw [h3', h130] at m30
  obtain ⟨U', hU'⟩ := relMark hU 1
  obtain ⟨V', hV'⟩ := factMark ys (1 + 3 * U.length)
  have m17 := e17 (k := k + 20) hU' hV' (by omega)
  rw [h133, h118] at m17
  have lP := (mkRows_up stepRel_up hU').2
  have lQ := (mkRows_up stepFact_up hV').2
  rw [A1_len] at lQ
  have t18 := c18 (k := k + 18) hU' hV' (by omega) (by omega) (by omega) (by omega) (fun r hr z l e => by
    obtain ⟨x, hx, rfl⟩ := List.mem_map.1 hr
    cases e
    rw [I1_len]
    have := len_terms hx
    omega) (by omega)
  exact law5q (C (k + 21)) (k + 21) t21 (neg_f (by omega)) t22 (neg_f (by omega)) t24 rfl t25 F25x0 F25x1 t23 t26 r0 r1 r2 (dep_rel h1) (dep_ints q) (dep_facts xs) (dep_rel hU) (dep_facts ys) t16 t27 t28
    m29 rfl rfl m30 rfl rfl rfl (by omega) m17 rfl rfl rfl (by omega) t18
end Go.Proofs.YthicohakeljdcaaGreat.Q

/-! YNa -/
namespace Go.Proofs.YthicohakeljdcaaGreat.Q
open Go Ovi
theorem prev_i {i : Nat} (h : i ≠ 0) (hm : i ≤ 1048576) : IntKind.i64.wrap ((i : Int) - 1) = ((i - 1 : Nat) : Int) := by rw [wrap_id (by omega) (by omega)]; omega
/-! ### substitutions -/
def sBad (ks vs : List Int) (i : Nat) (x : Int) : Bool := !decide (0 ≤ x ∧ x ≤ 39) || ((decide (i > 0) && decide (x ≤ ks.getD (i - 1) 0)) || !okV (vs.getD i 0))
/-- both IsValidSubstitution answer alike -/
theorem subB (ks vs : List Int) (hV : ∀ v ∈ vs, inI v) (h1 : ks.length ≤ 1048576) (h2 : vs.length ≤ 1048576) : ∃ b, (b = true → ks.length = vs.length ∧ ∀ x ∈ ks, 0 ≤ x ∧ x ≤ 39) ∧ ∀ k, 2000000 ≤ k → C (k + 4) 213 [.agg [.d (.list 1 (I1 ks)), .d (.list 1 (I1 vs))]] = bo b ∧ C (k + 4) 148 [.agg [.d (.list 1 (I1 ks)), .d (.list 1 (I1 vs))]] = bo b := by
  have hmax : (1048576 : Nat) ≤ maxLen := by decide
  by_cases hl : ks.length = vs.length
  rotate_left
  · refine ⟨false, fun h => (by cases h), fun k hk => ?_⟩
    rw [F213.run, F148.run, I1_len, I1_len, ite'_t (by simp; omega), ite'_t (b := (ks.length : Int) != (vs.length : Int)) (by simp; omega)]
    exact ⟨rfl, rfl⟩
  have step : ∀ k, 2000000 ≤ k → ∀ (n i : Nat) x, ks[i]? = some x → F213.L4 (k + 3) (C (k + 3)) (n + 1) (I1 ks) (ks.length : Int) (i : Int) (I1 ks) (I1 vs) = cond (sBad ks vs i x) (bo false) (F213.L4 (k + 3) (C (k + 3)) n (I1 ks) (ks.length : Int) ((i + 1 : Nat) : Int) (I1 ks) (I1 vs)) ∧
      F148.L4 (k + 3) (C (k + 3)) (n + 1) (i : Int) (I1 ks) (I1 vs) = cond (sBad ks vs i x) (bo false) (F148.L4 (k + 3) (C (k + 3)) n ((i + 1 : Nat) : Int) (I1 ks) (I1 vs)) := by
    intro k hk n i x hx
    have hi := (List.getElem?_eq_some_iff.1 hx).1
    have hv : vs[i]? = some (vs.getD i 0) := by rw [List.getD_eq_getElem?_getD, List.getElem?_eq_getElem (by omega)]; rfl
    have hvI := hV _ (List.mem_of_getElem? hv)
    rw [F213.L4.succ, F148.L4.succ, I1_len, I1_len, ite'_t (lt_t hi), ite'_t (inR_t hi), ite'_t (lt_t hi), ite'_t (inR_t hi), I1_c hx]
    simp only [bindI_s]
    rw [c73, c68, bB, bB, next_i hi (m := ks.length) (by omega)]
    unfold sBad
    cases decide (0 ≤ x ∧ x ≤ 39) with
    | false => exact ⟨rfl, rfl⟩
    | true =>
      rw [ite'_nt, ite'_nt, ite'_t (inR_t hi), show inR (i : Int) vs.length = true from inR_t (by omega), I1_c hv]
      simp only [bindI_s]
      rw [c165, c157 hvI, bB, bB]
      by_cases h0 : i = 0
      · subst h0
        rw [ite'_f (by simp), ite'_f (b := decide (((0 : Nat) : Int) > 0)) (by simp), ite'_t rfl, ite'_t rfl]
        cases okV (vs.getD 0 0) <;> exact ⟨rfl, rfl⟩
      · have hp : ks[i - 1]? = some (ks.getD (i - 1) 0) := by rw [List.getD_eq_getElem?_getD, List.getElem?_eq_getElem (by omega)]; rfl
        have hgt : decide ((i : Int) > 0) = true := by simp; omega
        rw [hgt, ite'_t rfl, ite'_t rfl, prev_i h0 (by omega), show inR ((i - 1 : Nat) : Int) ks.length = true from inR_t (by omega), ite'_t rfl, ite'_t rfl, I1_c hp]
        simp only [bindI_s]
        rw [show decide (i > 0) = true by simp; omega]
        cases decide (x ≤ ks.getD (i - 1) 0) <;> cases okV (vs.getD i 0) <;> exact ⟨rfl, rfl⟩
  have d1 : ∀ k n, F213.L4 (k + 3) (C (k + 3)) (n + 1) (I1 ks) (ks.length : Int) (ks.length : Int) (I1 ks) (I1 vs) = bo true := fun k n => by rw [F213.L4.succ, ite'_f (lt_f (by omega))]; rfl
  have d2 : ∀ k n, F148.L4 (k + 3) (C (k + 3)) (n + 1) (ks.length : Int) (I1 ks) (I1 vs) = bo true := fun k n => by rw [F148.L4.succ, I1_len, ite'_f (lt_f (by omega))]; rfl
  have run : ∀ k, C (k + 4) 213 [.agg [.d (.list 1 (I1 ks)), .d (.list 1 (I1 vs))]] = F213.L4 (k + 3) (C (k + 3)) (k + 3) (I1 ks) (ks.length : Int) 0 (I1 ks) (I1 vs) ∧ C (k + 4) 148 [.agg [.d (.list 1 (I1 ks)), .d (.list 1 (I1 vs))]] = F148.L4 (k + 3) (C (k + 3)) (k + 3) 0 (I1 ks) (I1 vs) := by
    intro k
    rw [F213.run, F148.run, I1_len, I1_len, ite'_f (by simp [hl]), ite'_f (b := (ks.length : Int) != (vs.length : Int)) (by simp [hl])]
    exact ⟨rfl, rfl⟩
  by_cases hall : ∀ (i : Nat) x, ks[i]? = some x → sBad ks vs i x = false
  · refine ⟨true, fun _ => ⟨hl, fun x hx => ?_⟩, fun k hk => ?_⟩
    · obtain ⟨i, hi⟩ := List.mem_iff_getElem?.1 hx
      have := hall i x hi
      simp only [sBad, Bool.or_eq_false_iff, Bool.not_eq_false', decide_eq_true_eq] at this
      exact this.1
    · rw [(run k).1, (run k).2]
      constructor
      · rcases loop_find (L := fun n i => F213.L4 (k + 3) (C (k + 3)) n (I1 ks) (ks.length : Int) i (I1 ks) (I1 vs)) (stop := sBad ks vs) (hit := fun _ => bo false) (fin := bo true) (fun n i x hx => (step k hk n i x hx).1) (d1 k) (k + 3) (by omega) with ⟨i, x, hx, hst, _⟩ | ⟨_, h⟩
        · rw [hall i x hx] at hst; cases hst
        · exact h
      · rcases loop_find (L := fun n i => F148.L4 (k + 3) (C (k + 3)) n i (I1 ks) (I1 vs)) (stop := sBad ks vs) (hit := fun _ => bo false) (fin := bo true) (fun n i x hx => (step k hk n i x hx).2) (d2 k) (k + 3) (by omega) with ⟨i, x, hx, hst, _⟩ | ⟨_, h⟩
        · rw [hall i x hx] at hst; cases hst
        · exact h
  · refine ⟨false, fun h => (by cases h), fun k hk => ?_⟩
    rw [(run k).1, (run k).2]
    constructor
    · rcases loop_find (L := fun n i => F213.L4 (k + 3) (C (k + 3)) n (I1 ks) (ks.length : Int) i (I1 ks) (I1 vs)) (stop := sBad ks vs) (hit := fun _ => bo false) (fin := bo true) (fun n i x hx => (step k hk n i x hx).1) (d1 k) (k + 3) (by omega) with ⟨i, x, hx, hst, h⟩ | ⟨h, _⟩
      · exact h
      · exact absurd h hall
    · rcases loop_find (L := fun n i => F148.L4 (k + 3) (C (k + 3)) n i (I1 ks) (I1 vs)) (stop := sBad ks vs) (hit := fun _ => bo false) (fin := bo true) (fun n i x hx => (step k hk n i x hx).2) (d2 k) (k + 3) (by omega) with ⟨i, x, hx, hst, h⟩ | ⟨h, _⟩
      · exact h
      · exact absurd h hall
/-- both ApplyToValue give the same, by a valid substitution -/
theorem appB (ks vs : List Int) (h1 : ks.length ≤ 1048576) (hl : ks.length = vs.length) (hr : ∀ x ∈ ks, 0 ≤ x ∧ x ≤ 39)
    (hs : ∀ k, 2000000 ≤ k → C (k + 4) 213 [.agg [.d (.list 1 (I1 ks)), .d (.list 1 (I1 vs))]] = bo true ∧ C (k + 4) 148 [.agg [.d (.list 1 (I1 ks)), .d (.list 1 (I1 vs))]] = bo true) (hV : ∀ v ∈ vs, inI v) (v : Int) (hv : inI v) :
    ∃ r, inI r ∧ ∀ k, 2000000 ≤ k → C (k + 5) 252 [.agg [.d (.list 1 (I1 ks)), .d (.list 1 (I1 vs))], .d (.int .i64 v)] = io r ∧ C (k + 5) 211 [.agg [.d (.list 1 (I1 ks)), .d (.list 1 (I1 vs))], .d (.int .i64 v)] = io r := by
  have hmax : (1048576 : Nat) ≤ maxLen := by decide
  -- the place of a number
  let n : Int := if isN v then -1 - v else 0
  have e85 : ∀ k, 2000000 ≤ k → (∃ i x, ks[i]? = some x ∧ (n == x) = true ∧ (∀ (j : Nat) y, j < i → ks[j]? = some y → (n == y) = false) ∧ C (k + 4) 85 [.d (.list 1 (I1 ks)), .d (.int .i64 n)] = io (i : Int)) ∨ ((∀ (i : Nat) x, ks[i]? = some x → (n == x) = false) ∧ C (k + 4) 85 [.d (.list 1 (I1 ks)), .d (.int .i64 n)] = io (-1)) := by
    intro k hk
    rw [F85.run, I1_len]
    exact loop_first (xs := ks) (L := fun m i => F85.L2 (k + 3) (C (k + 3)) m (I1 ks) n (ks.length : Int) i) (stop := fun _ x => n == x) (hit := fun i => io (i : Int)) (fin := io (-1))
      (fun m i x hx => by
        have hi := (List.getElem?_eq_some_iff.1 hx).1
        rw [F85.L2.succ, I1_len, ite'_t (lt_t hi), ite'_t (inR_t hi), I1_c hx, bindI_s, next_i hi (m := ks.length) (by omega)]; rfl)
      (fun m => by rw [F85.L2.succ, ite'_f (lt_f (by omega))]; rfl) (k + 3) (by omega)
  have e211 : ∀ k, 2000000 ≤ k → (∃ i x, ks[i]? = some x ∧ decide (-1 - x = v) = true ∧ (∀ (j : Nat) y, j < i → ks[j]? = some y → decide (-1 - y = v) = false) ∧ C (k + 5) 211 [.agg [.d (.list 1 (I1 ks)), .d (.list 1 (I1 vs))], .d (.int .i64 v)] = io (vs.getD i 0)) ∨ ((∀ (i : Nat) x, ks[i]? = some x → decide (-1 - x = v) = false) ∧ C (k + 5) 211 [.agg [.d (.list 1 (I1 ks)), .d (.list 1 (I1 vs))], .d (.int .i64 v)] = io v) := by
    intro k hk
    rw [F211.run]
    exact loop_first (xs := ks) (L := fun m i => F211.L2 (k + 4) (C (k + 4)) m v i (I1 ks) (I1 vs)) (stop := fun _ x => decide (-1 - x = v)) (hit := fun i => io (vs.getD i 0)) (fin := io v)
      (fun m i x hx => by
        have hi := (List.getElem?_eq_some_iff.1 hx).1
        have hxr := hr x (List.mem_of_getElem? hx)
        have hvi : vs[i]? = some (vs.getD i 0) := by rw [List.getD_eq_getElem?_getD, List.getElem?_eq_getElem (by omega)]; rfl
        rw [F211.L2.succ, I1_len, ite'_t (lt_t hi), (hs k hk).2, bB, ite'_t rfl, ite'_t (inR_t hi), I1_c hx, bindI_s, F70.run]
        simp only [bindR_s, resI_s, bindI_s]
        rw [wrap_id (by omega) (by omega), I1_len, ite'_t (x := bindI (cellI .i64 (I1 vs) (i : Int).toNat 0) _) (inR_t (by omega)), I1_c hvi, bindI_s, next_i hi (m := ks.length) (by omega)]
        by_cases h : -1 - x = v
        · rw [ite'_t (by simpa using h), decide_eq_true h]; rfl
        · rw [ite'_f (by simpa using h), decide_eq_false h]; rfl)
      (fun m => by rw [F211.L2.succ, I1_len, ite'_f (lt_f (by omega))]; rfl) (k + 4) (by omega)
  have e252 : ∀ k, 2000000 ≤ k → ∀ q, C (k + 4) 85 [.d (.list 1 (I1 ks)), .d (.int .i64 n)] = io q → C (k + 5) 252 [.agg [.d (.list 1 (I1 ks)), .d (.list 1 (I1 vs))], .d (.int .i64 v)] = ite' (!isN v) (io v) (ite' (decide (q < 0)) (io v) (ite' (inR q vs.length) (bindI (cellI .i64 (I1 vs) q.toNat 0) fun z => io z) none)) := by
    intro k hk q hq
    rw [F252.run, c82 (k := k + 2) hv, nnB]
    show (bindR (C (k + 4) 85 [.d (.list 1 (I1 ks)), .d (.int .i64 n)]) fun r => bindI (resI .i64 1 false 1 r 0 0) _) = _
    rw [hq, iB', (hs k hk).1, bB, ite'_nt, I1_len]
    rfl
  cases hn : isN v with
  | false =>
    have hnf := isN_f hn
    refine ⟨v, hv, fun k hk => ⟨?_, ?_⟩⟩
    · rcases e85 k hk with ⟨i, x, _, _, _, e⟩ | ⟨_, e⟩ <;> rw [e252 k hk _ e, hn, ite'_nf]
    · rcases e211 k hk with ⟨i, x, hx, hst, _, e⟩ | ⟨_, e⟩
      · have := hr x (List.mem_of_getElem? hx)
        have := of_decide_eq_true hst
        omega
      · exact e
  | true =>
    have hnt := isN_t hn
    have hnv : n = -1 - v := by simp [n, hn]
    by_cases hex : ∃ (i : Nat), ks[i]? = some n
    · obtain ⟨i0, hi0⟩ := hex
      obtain ⟨i, hi, hfirst⟩ : ∃ i : Nat, ks[i]? = some n ∧ ∀ j : Nat, j < i → ks[j]? ≠ some n := by
        rcases e85 2000000 (Nat.le_refl _) with ⟨i, x, hx, hst, hf, _⟩ | ⟨h, _⟩
        · have : n = x := by simpa using hst
          subst this
          exact ⟨i, hx, fun j hj hc => by have := hf j n hj hc; simp at this⟩
        · have := h i0 n hi0; simp at this
      have hil := (List.getElem?_eq_some_iff.1 hi).1
      have hvi : vs[i]? = some (vs.getD i 0) := by rw [List.getD_eq_getElem?_getD, List.getElem?_eq_getElem (by omega)]; rfl
      refine ⟨vs.getD i 0, hV _ (List.mem_of_getElem? hvi), fun k hk => ⟨?_, ?_⟩⟩
      · rcases e85 k hk with ⟨j, x, hx, hst, hf, e⟩ | ⟨h, _⟩
        · have hxn : n = x := by simpa using hst
          subst hxn
          have hij : j = i := by
            rcases Nat.lt_trichotomy j i with h | h | h
            · exact absurd hx (hfirst j h)
            · exact h
            · have := hf i n h hi; simp at this
          subst hij
          rw [e252 k hk _ e, hn, ite'_nt, ite'_f (neg_f (by omega)), ite'_t (inR_t (by omega)), I1_c hvi, bindI_s]
        · have := h i n hi; simp at this
      · rcases e211 k hk with ⟨j, x, hx, hst, hf, e⟩ | ⟨h, _⟩
        · have hxn : x = n := by have := of_decide_eq_true hst; omega
          subst hxn
          have hij : j = i := by
            rcases Nat.lt_trichotomy j i with h | h | h
            · exact absurd hx (hfirst j h)
            · exact h
            · have := hf i _ h hi; simp at this; omega
          subst hij
          exact e
        · have := h i n hi; simp at this; omega
    · refine ⟨v, hv, fun k hk => ⟨?_, ?_⟩⟩
      · rcases e85 k hk with ⟨j, x, hx, hst, _, e⟩ | ⟨_, e⟩
        · have hxn : n = x := by simpa using hst
          subst hxn
          exact absurd ⟨j, hx⟩ hex
        · rw [e252 k hk _ e, hn, ite'_nt, ite'_t (by decide)]
      · rcases e211 k hk with ⟨j, x, hx, hst, _, e⟩ | ⟨_, e⟩
        · have hxn : x = n := by have := of_decide_eq_true hst; omega
          subst hxn
          exact absurd ⟨j, hx⟩ hex
        · exact e
end Go.Proofs.YthicohakeljdcaaGreat.Q

/-! YNb -/
namespace Go.Proofs.YthicohakeljdcaaGreat.Q
open Go Ovi
/-- what both ApplyToValue give -/
def Ap (ks vs : List Int) (ap : Int → Int) : Prop := ∀ v, inI v → ∀ k, 2000000 ≤ k → C (k + 5) 252 [.agg [.d (.list 1 (I1 ks)), .d (.list 1 (I1 vs))], .d (.int .i64 v)] = io (ap v) ∧ C (k + 5) 211 [.agg [.d (.list 1 (I1 ks)), .d (.list 1 (I1 vs))], .d (.int .i64 v)] = io (ap v)
variable {k : Nat}
def mapF (ap : Int → Int) (x : Atom) : Atom := (x.1, x.2.map ap)
theorem fact_0 {r : Int} {l : Ovi.Rows} : resI .i64 1 true 2 [(true, [.d (.int .i64 r), .row 3 1 l])] 0 0 = some r := rfl
theorem fact_1 {r : Int} {l : Ovi.Rows} : resO 3 1 1 true 2 [(true, [.d (.int .i64 r), .row 3 1 l])] 0 1 = some l := rfl
/-- impl.ApplyToFact -/
theorem c214 {ks vs : List Int} {ap : Int → Int} (hap : Ap ks vs ap) (x : Atom) (hI : ∀ z ∈ x.2, inI z) (hk : 2000000 ≤ k) (hz : x.2.length ≤ 1048576) : C (k + 6) 214 [.agg [.d (.list 1 (I1 ks)), .d (.list 1 (I1 vs))], .agg [.d (.int .i64 x.1), .d (.list 1 (I1 x.2))]] = some [(true, [.d (.int .i64 x.1), .row 3 1 (I1 (x.2.map ap))])] := by
  have hmax : (1048576 : Nat) ≤ maxLen := by decide
  rw [F214.run, c221 (k := k + 3) x hz]
  simp only [bindR_s, fact_0, fact_1, bindI_s, bindL_s]
  rw [I1_len]
  have main : ∀ (m i n : Nat) (v : Ovi.Rows), i + m = x.2.length → m < n → Filled (I1 (x.2.map ap)) v i 1 → F214.L3 (k + 5) (C (k + 5)) n (I1 x.2) (x.2.length : Int) (i : Int) (I1 ks) (I1 vs) 0 [] x.1 v = some [(true, [.d (.int .i64 x.1), .row 3 1 (I1 (x.2.map ap))])] := by
    intro m
    induction m with
    | zero =>
      intro i n v hm hn hf
      obtain ⟨n, rfl⟩ : ∃ j, n = j + 1 := ⟨n - 1, by omega⟩
      have : v = I1 (x.2.map ap) := by
        have e : i = (I1 (x.2.map ap)).length := by rw [I1_len, List.length_map]; omega
        rw [e] at hf
        exact hf.done
      rw [F214.L3.succ, ite'_f (lt_f (by omega)), this]
    | succ m ih =>
      intro i n v hm hn hf
      obtain ⟨n, rfl⟩ : ∃ j, n = j + 1 := ⟨n - 1, by omega⟩
      have hi : i < x.2.length := by omega
      have hx := List.getElem?_eq_getElem hi
      have hvl := hf.1
      rw [I1_len, List.length_map] at hvl
      rw [F214.L3.succ, ite'_t (lt_t hi), I1_len, ite'_t (inR_t hi), I1_c hx, bindI_s, (hap _ (hI _ (List.getElem_mem hi)) k hk).1, iB', ite'_t (inR_t (by omega)), next_i hi (m := x.2.length) (by omega), Int.toNat_natCast]
      refine ih (i + 1) n _ (by omega) (by omega) (hf.step ?_ rfl)
      rw [I1_get' (z := ap x.2[i])]
      simp [hi]
  refine main x.2.length 0 (k + 5) (I1 x.2) (by omega) (by omega) ⟨by simp [I1_len], by simp, fun r hr => ?_⟩
  obtain ⟨i, hi⟩ := List.mem_iff_getElem?.1 hr
  exact I1_rows x.2 i r hi
/-- spec.ApplyToFact -/
theorem c149 {ks vs : List Int} {ap : Int → Int} (hap : Ap ks vs ap) (x : Atom) (hI : ∀ z ∈ x.2, inI z) (hk : 2000000 ≤ k) (hz : x.2.length ≤ 1048576) : C (k + 6) 149 [.agg [.d (.list 1 (I1 ks)), .d (.list 1 (I1 vs))], .agg [.d (.int .i64 x.1), .d (.list 1 (I1 x.2))]] = some [(true, [.d (.int .i64 x.1), .row 3 1 (I1 (x.2.map ap))])] := by
  have hmax : (1048576 : Nat) ≤ maxLen := by decide
  rw [F149.run]
  have main : ∀ (m i n : Nat), i + m = x.2.length → m < n → F149.L3 (k + 5) (C (k + 5)) n (i : Int) (I1 ks) (I1 vs) x.1 (I1 x.2) 0 [] x.1 (I1 ((x.2.take i).map ap)) = some [(true, [.d (.int .i64 x.1), .row 3 1 (I1 (x.2.map ap))])] := by
    intro m
    induction m with
    | zero =>
      intro i n hm hn
      obtain ⟨n, rfl⟩ : ∃ j, n = j + 1 := ⟨n - 1, by omega⟩
      obtain rfl : i = x.2.length := by omega
      rw [F149.L3.succ, I1_len, ite'_f (lt_f (by omega)), List.take_length]
    | succ m ih =>
      intro i n hm hn
      obtain ⟨n, rfl⟩ : ∃ j, n = j + 1 := ⟨n - 1, by omega⟩
      have hi : i < x.2.length := by omega
      have hx := List.getElem?_eq_getElem hi
      have e : I1 ((x.2.take i).map ap) ++ [[.int .i64 (ap x.2[i])]] = I1 ((x.2.take (i + 1)).map ap) := by
        rw [List.take_succ_eq_append_getElem hi]
        simp only [I1, List.map_append, List.map_cons, List.map_nil]
      rw [F149.L3.succ, I1_len, ite'_t (lt_t hi), ite'_t (inR_t hi), I1_c hx, bindI_s, (hap _ (hI _ (List.getElem_mem hi)) k hk).2, iB', ite'_t (fits_t (by simp [I1_len]; omega)), e, next_i hi (m := x.2.length) (by omega)]
      exact ih (i + 1) n (by omega) (by omega)
  exact main x.2.length 0 (k + 5) (by omega) (by omega)
end Go.Proofs.YthicohakeljdcaaGreat.Q

/-! YNc -/
namespace Go.Proofs.YthicohakeljdcaaGreat.Q
open Go Ovi
variable {k : Nat}
theorem rowsSet_A1 {M : List Atom} {i : Nat} (z : Atom) (h : i < M.length) : rowsSet (A1 M) i 0 [.int .i64 z.1, .list 1 (I1 z.2)] = A1 (M.set i z) := by
  have : (A1 M).getD i [] = [.int .i64 (M[i]).1, .list 1 (I1 (M[i]).2)] := by simp [A1, List.getD, h]
  unfold rowsSet
  rw [this]
  simp [A1, List.map_set]
def subI (ap : Int → Int) (fs : List Atom) : List Atom := can (fs.map (mapF ap))
/-- an instance, or none -/
def ar2 (b : Bool) (a : Ovi.Rows) (fs : List Atom) : Res := cond b [(true, [.row 133 3 a, .frow 118 2 1 (A1 fs)]), (false, [.d (.bool true)])] [(true, [.nil, .nil]), (false, [.d (.bool false)])]
theorem mapF_short {ap : Int → Int} {fs : List Atom} (hf : ∀ x ∈ fs, x.2.length ≤ 1048576) : ∀ z ∈ fs.map (mapF ap), z.2.length ≤ 1048576 := by
  intro z hz
  obtain ⟨x, hx, rfl⟩ := List.mem_map.1 hz
  have := hf x hx
  simpa [mapF] using this
theorem R54 {r : Res} {a b : Ovi.Rows} {f : Ovi.Rows → Ovi.Rows → Option Res} (h1 : resL 3 1 true 2 r 0 0 = some a) (h2 : resL 2 1 true 2 r 0 1 = some b) : (bindR (some r) fun r20 => bindL (resL 3 1 true 2 r20 0 0) fun l21 => bindL (resL 2 1 true 2 r20 0 1) fun l22 => f l21 l22) = f a b := by
  rw [bindR_s, h1, bindL_s, h2, bindL_s]
theorem aF {r : Int} {vs : Ovi.Rows} {f : Int → Ovi.Rows → Option Res} : (bindR (some [(true, [.d (.int .i64 r), .row 3 1 vs])]) fun r16 => bindI (resI .i64 1 true 2 r16 0 0) fun n17 => bindL (resO 3 1 1 true 2 r16 0 1) fun l18 => f n17 l18) = f r vs := rfl
theorem aI {a b : Ovi.Rows} {f : Ovi.Rows → Ovi.Rows → Option Res} : (bindR (some [(true, [.row 133 3 a, .frow 118 2 1 b])]) fun r16 => bindL (resO 133 3 1 true 2 r16 0 0) fun l17 => bindL (resF 118 2 1 1 true 2 r16 0 1) fun l18 => f l17 l18) = f a b := rfl
/-- impl.ApplyToInstance -/
theorem c152 {a : Ovi.Rows} {fs : List Atom} {ks vs : List Int} {ap : Int → Int} {b ib : Bool} (hap : b = true → Ap ks vs ap) (hsub : ∀ k, 2000000 ≤ k → C (k + 4) 213 [.agg [.d (.list 1 (I1 ks)), .d (.list 1 (I1 vs))]] = bo b) (hinst : ∀ k, 2000000 ≤ k → C (k + 8) 100 [.agg [.d (.list 3 a), .d (.list 2 (A1 fs))]] = bo ib)
    (ha2 : a.length ≤ 1048576) (hf : ∀ x ∈ fs, x.2.length ≤ 1048576) (hI : ∀ x ∈ fs, ∀ v ∈ x.2, inI v) (hl : fs.length ≤ 1048576) (hk : 2000000 ≤ k) :
    C (k + 11) 152 [.agg [.d (.list 1 (I1 ks)), .d (.list 1 (I1 vs))], .agg [.d (.list 3 a), .d (.list 2 (A1 fs))]] = some (ar2 (b && ib) a (subI ap fs)) := by
  have hmax : (1048576 : Nat) ≤ maxLen := by decide
  rw [F152.run, hsub (k + 6) (by omega), bB]
  cases b with
  | false => rw [ite'_nf]; rfl
  | true =>
    rw [ite'_nt, hinst (k + 2) (by omega), bB]
    cases ib with
    | false => rw [ite'_nf]; rfl
    | true =>
      have hap := hap rfl
      have main : ∀ (m i j : Nat) (cur : List Atom), i + m = fs.length → m < j → cur = (fs.take i).map (mapF ap) ++ fs.drop i → F152.L5 (k + 10) (C (k + 10)) j (A1 fs) (fs.length : Int) (i : Int) (I1 ks) (I1 vs) [] [] a (A1 cur) = some (ar2 true a (subI ap fs)) := by
        intro m
        induction m with
        | zero =>
          intro i j cur hm hj hc
          obtain ⟨j, rfl⟩ : ∃ q, j = q + 1 := ⟨j - 1, by omega⟩
          obtain rfl : i = fs.length := by omega
          rw [List.take_length, List.drop_length, List.append_nil] at hc
          subst hc
          rw [F152.L5.succ, ite'_f (lt_f (by omega)), c99 (k := k + 6) (fs.map (mapF ap)) (mapF_short hf) (by rw [List.length_map]; omega) (by omega)]
          rfl
        | succ m ih =>
          intro i j cur hm hj hc
          obtain ⟨j, rfl⟩ : ∃ q, j = q + 1 := ⟨j - 1, by omega⟩
          have hi : i < fs.length := by omega
          have hg := List.getElem?_eq_getElem hi
          have hgm := List.getElem_mem hi
          have hcl : cur.length = fs.length := by rw [hc]; simp; omega
          rw [F152.L5.succ, ite'_t (lt_t hi), A1_len, ite'_t (inR_t hi), A1_c0 hg, bindI_s, A1_c1 hg, bindL_s, c214 (k := k + 4) hap fs[i] (hI _ hgm) (by omega) (hf _ hgm), aF, A1_len, ite'_t (inR_t (show i < cur.length by omega)), next_i hi (m := fs.length) (by omega), Int.toNat_natCast]
          have e := rowsSet_A1 (M := cur) (i := i) (mapF ap fs[i]) (by omega)
          rw [show (fs[i]).1 = (mapF ap fs[i]).1 from rfl, show (fs[i]).2.map ap = (mapF ap fs[i]).2 from rfl, e]
          refine ih (i + 1) j _ (by omega) (by omega) ?_
          have hz0 : i - ((fs.take i).map (mapF ap)).length = 0 := by rw [List.length_map, List.length_take]; omega
          rw [hc, List.take_succ_eq_append_getElem hi, List.map_append, List.map_singleton, List.drop_eq_getElem_cons hi, List.append_assoc, List.singleton_append]
          rw [List.set_append_right _ _ (by rw [List.length_map, List.length_take]; omega), hz0, List.set_cons_zero]
      rw [ite'_nt, c98 (k := k + 6) ha2 fs hf hl (by omega), aI, A1_len]
      exact main fs.length 0 (k + 10) fs (by omega) (by omega) (by simp)
/-- spec.ApplyToInstance -/
theorem c71 {a : Ovi.Rows} {fs : List Atom} {ks vs : List Int} {ap : Int → Int} {b ib : Bool} (hap : b = true → Ap ks vs ap) (hsub : ∀ k, 2000000 ≤ k → C (k + 4) 148 [.agg [.d (.list 1 (I1 ks)), .d (.list 1 (I1 vs))]] = bo b) (hinst : ∀ k, 2000000 ≤ k → C (k + 8) 67 [.agg [.d (.list 3 a), .d (.list 2 (A1 fs))]] = bo ib)
    (ha2 : a.length ≤ 1048576) (hf : ∀ x ∈ fs, x.2.length ≤ 1048576) (hI : ∀ x ∈ fs, ∀ v ∈ x.2, inI v) (hl : ib = true → fs.length ≤ 1000000) (hk : 2000000 ≤ k) :
    C (k + 11) 71 [.agg [.d (.list 1 (I1 ks)), .d (.list 1 (I1 vs))], .agg [.d (.list 3 a), .d (.list 2 (A1 fs))]] = some (ar2 (b && ib) a (subI ap fs)) := by
  have hmax : (1048576 : Nat) ≤ maxLen := by decide
  rw [F71.run, hsub (k + 6) (by omega), bB]
  cases b with
  | false => rw [ite'_nf]; rfl
  | true =>
    rw [ite'_nt, hinst (k + 2) (by omega), bB]
    cases ib with
    | false => rw [ite'_nf]; rfl
    | true =>
      have hap := hap rfl
      have hl := hl rfl
      have hcl : (subI ap fs).length ≤ fs.length := by
        have := can_len (fs.map (mapF ap))
        rw [List.length_map] at this
        exact this
      have main : ∀ (m i j : Nat) (gs : List Atom), i + m = fs.length → m < j → SSA gs → (∀ z, z ∈ gs ↔ z ∈ (fs.take i).map (mapF ap)) → gs.length ≤ i → F71.L5 (k + 10) (C (k + 10)) j (i : Int) (I1 ks) (I1 vs) a (A1 fs) [] [] a (A1 gs) = some (ar2 true a (subI ap fs)) := by
        intro m
        induction m with
        | zero =>
          intro i j gs hm hj hS hmem hgl
          obtain ⟨j, rfl⟩ : ∃ q, j = q + 1 := ⟨j - 1, by omega⟩
          obtain rfl : i = fs.length := by omega
          have e : gs = subI ap fs := by
            refine ssA_eq hS (ssA_compact _) fun z => ?_
            rw [hmem z, List.take_length]
            exact (mem_can _ _).symm
          subst e
          rw [F71.L5.succ, A1_len, ite'_f (lt_f (by omega)), c92 (k := k + 7) ha2 (subI ap fs) (fun z hz => mapF_short hf z ((mem_can _ _).1 hz)) (by omega) (by omega), aI]
          rfl
        | succ m ih =>
          intro i j gs hm hj hS hmem hgl
          obtain ⟨j, rfl⟩ : ∃ q, j = q + 1 := ⟨j - 1, by omega⟩
          have hi : i < fs.length := by omega
          have hg := List.getElem?_eq_getElem hi
          have hgm := List.getElem_mem hi
          have hgx : ∀ x ∈ gs, x.2.length ≤ 1048576 := by
            intro z hz
            obtain ⟨x, hx', rfl⟩ := List.mem_map.1 ((hmem z).1 hz)
            have := hf x (List.mem_of_mem_take hx')
            simpa [mapF] using this
          obtain ⟨r, ws, e1, e2, e3, e4, e5, e6⟩ := c91 (k := k + 5) (a := a) gs (mapF ap fs[i]) hS hgx (by have := hf _ hgm; simpa [mapF] using this) (by omega) (by omega)
          rw [F71.L5.succ, A1_len, ite'_t (lt_t hi), ite'_t (inR_t hi), A1_c0 hg, bindI_s, A1_c1 hg, bindL_s, c149 (k := k + 4) hap fs[i] (hI _ hgm) (by omega) (hf _ hgm), aF]
          rw [show (C (k + 10) 91 [.agg [.d (.list 3 a), .d (.list 2 (A1 gs))], .agg [.d (.int .i64 (fs[i]).1), .d (.list 1 (I1 ((fs[i]).2.map ap)))]]) = some r from e1, R54 e2 e3, next_i hi (m := fs.length) (by omega)]
          refine ih (i + 1) j ws (by omega) (by omega) e4 (fun z => ?_) (by omega)
          rw [e5, hmem, List.take_succ_eq_append_getElem hi, List.map_append, List.mem_append, List.map_singleton, List.mem_singleton]
      rw [ite'_nt, ite'_t (fits_t (by omega))]
      exact main fs.length 0 (k + 10) [] (by omega) (by omega) (by simp [SSA]) (by simp) (Nat.zero_le _)
end Go.Proofs.YthicohakeljdcaaGreat.Q

/-! YNd -/
namespace Go.Proofs.YthicohakeljdcaaGreat.Q
open Go Ovi
variable {k : Nat}
/-- spec.NullsOfInstance -/
theorem c69 (a : Ovi.Rows) (xs : List Atom) (hI : ∀ x ∈ xs, ∀ z ∈ x.2, inI z) (hk : 2000000 ≤ k) (hs : terms xs + xs.length ≤ 1048576) : C (k + 4) 69 [.agg [.d (.list 3 a), .d (.list 2 (A1 xs))]] = some [(false, [.d (.list 1 (I1 (nulls (vals xs))))])] := by
  have hmax : (1048576 : Nat) ≤ maxLen := by decide
  rw [F69.run]
  have inner : ∀ (ls : List Int) (i : Nat), ls.length ≤ 1048576 → i < xs.length → ∀ (m j n k3 : Nat) (acc : List Int), j + m = ls.length → m < n → SS acc → acc.length + m ≤ 1048576 → 
      ∃ acc', F69.L7 (k + 3) (C (k + 3)) k3 n (I1 acc) (i : Int) (I1 ls) (j : Int) a (A1 xs) = F69.L3 (k + 3) (C (k + 3)) k3 (I1 acc') ((i + 1 : Nat) : Int) a (A1 xs) ∧ SS acc' ∧ acc'.length ≤ acc.length + m ∧ ∀ z, z ∈ acc' ↔ z ∈ acc ∨ z ∈ ls.drop j := by
    intro ls i hls hi m
    induction m with
    | zero =>
      intro j n k3 acc hm hn hS hl
      obtain ⟨n, rfl⟩ : ∃ j, n = j + 1 := ⟨n - 1, by omega⟩
      refine ⟨acc, ?_, hS, by omega, fun z => by rw [List.drop_eq_nil_of_le (by omega)]; simp⟩
      rw [F69.L7.succ, I1_len, ite'_f (lt_f (by omega)), next_i hi (m := xs.length) (by omega)]
    | succ m ih =>
      intro j n k3 acc hm hn hS hl
      obtain ⟨n, rfl⟩ : ∃ j, n = j + 1 := ⟨n - 1, by omega⟩
      have hj : j < ls.length := by omega
      have hz := List.getElem?_eq_getElem hj
      obtain ⟨r', ws, e1, e2, e3, e4, e5⟩ := c147s (k := k + 2) acc ls[j] hS (by omega) (by omega)
      rw [F69.L7.succ, I1_len, ite'_t (lt_t hj), ite'_t (inR_t hj)]
      simp only [Int.toNat_natCast, cellI_at (I1_get' hz), List.getElem?_cons_zero, Option.bind_some, asI_s, bindI_s]
      rw [e1]
      simp only [bindR_s]
      rw [e2, bindL_s, next_i hj (m := ls.length) (by omega)]
      obtain ⟨acc', g1, g2, g3, g4⟩ := ih (j + 1) n k3 ws (by omega) (by omega) e5 (by omega)
      refine ⟨acc', g1, g2, by omega, fun z => ?_⟩
      rw [g4 z, e3 z, List.drop_eq_getElem_cons hj, List.mem_cons, or_assoc]
  have outer : ∀ (m i n : Nat) (acc : List Int), i + m = xs.length → m < n → SS acc → acc.length ≤ terms (xs.take i) → (∀ z, z ∈ acc ↔ z ∈ nulls (vals (xs.take i))) →
      F69.L3 (k + 3) (C (k + 3)) n (I1 acc) (i : Int) a (A1 xs) = some [(false, [.d (.list 1 (I1 (nulls (vals xs))))])] := by
    intro m
    induction m with
    | zero =>
      intro i n acc hm hn hS ha hmem
      obtain ⟨n, rfl⟩ : ∃ j, n = j + 1 := ⟨n - 1, by omega⟩
      obtain rfl : i = xs.length := by omega
      rw [List.take_length] at hmem
      rw [F69.L3.succ, A1_len, ite'_f (lt_f (by omega)), ss_eq hS (nulls_ss _) hmem]
    | succ m ih =>
      intro i n acc hm hn hS ha hmem
      obtain ⟨n, rfl⟩ : ∃ j, n = j + 1 := ⟨n - 1, by omega⟩
      have hi : i < xs.length := by omega
      have hx := List.getElem?_eq_getElem hi
      have hxm := List.mem_of_getElem? hx
      have hta := terms_at hx
      have htl := terms_le xs (i + 1)
      have hnl := nulls_len (xs[i]).2
      rw [F69.L3.succ, A1_len, ite'_t (lt_t hi), ite'_t (inR_t hi)]
      simp only [Int.toNat_natCast, cellI_at (A1_get hx), cellL_at (A1_get hx), List.getElem?_cons_zero, List.getElem?_cons_succ, Option.bind_some, asI_s, asL_s, bindI_s, bindL_s]
      rw [c145 (k := k) (xs[i]).1 (xs[i]).2 (hI _ hxm) (by omega) (by omega)]
      simp only [bindR_s, resL_d, bindL_s]
      obtain ⟨acc', g1, g2, g3, g4⟩ := inner (nulls (xs[i]).2) i (by omega) hi (nulls (xs[i]).2).length 0 (k + 3) n acc (by omega) (by omega) hS (by omega)
      rw [show ((0 : Nat) : Int) = 0 from rfl] at g1
      rw [g1]
      refine ih (i + 1) n acc' (by omega) (by omega) g2 (by omega) (fun z => ?_)
      rw [g4 z, List.drop_zero, hmem z, mem_nulls, mem_nulls, mem_nulls, List.take_succ_eq_append_getElem hi]
      unfold vals
      rw [List.flatMap_append]
      simp only [List.mem_append, List.flatMap_cons, List.flatMap_nil, List.append_nil]
      constructor
      · rintro (⟨v, h1, h2⟩ | ⟨v, h1, h2⟩)
        · exact ⟨v, .inl h1, h2⟩
        · exact ⟨v, .inr h1, h2⟩
      · rintro ⟨v, h1 | h1, h2⟩
        · exact .inl ⟨v, h1, h2⟩
        · exact .inr ⟨v, h1, h2⟩
  exact outer xs.length 0 (k + 3) [] (by omega) (by omega) (by simp [SS]) (by simp) (fun z => by simp [mem_nulls, vals])
/-- impl.NullsOfInstance -/
theorem c151 (a : Ovi.Rows) (xs : List Atom) (hI : ∀ x ∈ xs, ∀ z ∈ x.2, inI z) (hk : 2000000 ≤ k) (hs : terms xs + xs.length ≤ 1048576) : C (k + 4) 151 [.agg [.d (.list 3 a), .d (.list 2 (A1 xs))]] = some [(false, [.row 3 1 (I1 (nulls (vals xs)))])] := by
  have hmax : (1048576 : Nat) ≤ maxLen := by decide
  rw [F151.run, A1_len]
  have key : ∀ (m i n : Nat), i + m = xs.length → m < n → F151.L3 (k + 3) (C (k + 3)) n (A1 xs) (xs.length : Int) (i : Int) (I1 (vals (xs.take i))) = some [(false, [.row 3 1 (I1 (nulls (vals xs)))])] := by
    intro m
    induction m with
    | zero =>
      intro i n hm hn
      obtain ⟨n, rfl⟩ : ∃ j, n = j + 1 := ⟨n - 1, by omega⟩
      obtain rfl : i = xs.length := by omega
      rw [F151.L3.succ, ite'_f (lt_f (by omega)), List.take_length, c212 (vals xs) (vals_I hI) (by rw [vals_len]; omega) (by rw [vals_len]; omega)]
      simp only [bindR_s, resO_s, bindL_s]
    | succ m ih =>
      intro i n hm hn
      obtain ⟨n, rfl⟩ : ∃ j, n = j + 1 := ⟨n - 1, by omega⟩
      have hi : i < xs.length := by omega
      have hx := List.getElem?_eq_getElem hi
      have hta := terms_at hx
      have htl := terms_le xs (i + 1)
      have hvl := vals_len (xs.take i)
      rw [F151.L3.succ, A1_len, ite'_t (lt_t hi), ite'_t (inR_t hi)]
      simp only [Int.toNat_natCast, cellI_at (A1_get hx), cellL_at (A1_get hx), List.getElem?_cons_zero, List.getElem?_cons_succ, Option.bind_some, asI_s, asL_s, bindI_s, bindL_s]
      rw [I1_len, I1_len, ite'_t (fits_t (by omega)), wrap_succ (m := xs.length) (by omega) (by omega) (by omega), show ((i : Int) + 1) = ((i + 1 : Nat) : Int) by omega]
      have e : I1 (vals (xs.take i)) ++ I1 (xs[i]).2 = I1 (vals (xs.take (i + 1))) := by
        rw [show vals (xs.take (i + 1)) = vals (xs.take i) ++ (xs[i]).2 by rw [List.take_succ_eq_append_getElem hi]; simp only [vals, List.flatMap_append, List.flatMap_cons, List.flatMap_nil, List.append_nil]]
        simp only [I1, List.map_append]
      rw [e]
      exact ih (i + 1) n (by omega) (by omega)
  exact key xs.length 0 (k + 3) (by omega) (by omega)
end Go.Proofs.YthicohakeljdcaaGreat.Q

/-! YNe -/
namespace Go.Proofs.YthicohakeljdcaaGreat.Q
open Go Ovi
variable {k : Nat}
theorem ap_ex (ks vs : List Int) (hV : ∀ v ∈ vs, inI v) (h1 : ks.length ≤ 1048576) (h2 : vs.length ≤ 1048576) : ∃ (b : Bool) (ap : Int → Int), (b = true → Ap ks vs ap) ∧ (∀ v, inI v → inI (ap v)) ∧
    ∀ k, 2000000 ≤ k → C (k + 4) 213 [.agg [.d (.list 1 (I1 ks)), .d (.list 1 (I1 vs))]] = bo b ∧ C (k + 4) 148 [.agg [.d (.list 1 (I1 ks)), .d (.list 1 (I1 vs))]] = bo b := by
  obtain ⟨b, hb, hs⟩ := subB ks vs hV h1 h2
  cases b with
  | false => exact ⟨false, fun v => v, fun h => (by cases h), fun v h => h, hs⟩
  | true =>
    obtain ⟨hl, hr⟩ := hb rfl
    have H := fun v (hv : inI v) => appB ks vs h1 hl hr hs hV v hv
    classical
    refine ⟨true, fun v => if h : inI v then Classical.choose (H v h) else v, fun _ v hv k hk => ?_, fun v hv => ?_, hs⟩
    · simp only [dif_pos hv]
      exact (Classical.choose_spec (H v hv)).2 k hk
    · simp only [dif_pos hv]
      exact (Classical.choose_spec (H v hv)).1
theorem terms_mapF (ap : Int → Int) (xs : List Atom) : terms (xs.map (mapF ap)) = terms xs := by
  unfold terms
  rw [List.map_map]
  congr 1
  apply List.map_congr_left
  intro x _
  simp [mapF]
/-- what both programs make of an instance by such a substitution -/
theorem appI {a : Ovi.Rows} (xs : List Atom) (hI0 : ∀ x ∈ xs, inI x.1) (hI : ∀ x ∈ xs, ∀ z ∈ x.2, inI z) (hs : terms xs + xs.length ≤ 1048576) (hal : a.length ≤ 1048576) {ib : Bool} (h30 : ib = true → xs.length ≤ 30)
    (hinst : ∀ k, 2000000 ≤ k → C (k + 8) 100 [.agg [.d (.list 3 a), .d (.list 2 (A1 xs))]] = bo ib ∧ C (k + 8) 67 [.agg [.d (.list 3 a), .d (.list 2 (A1 xs))]] = bo ib)
    (ks vs : List Int) (hV : ∀ v ∈ vs, inI v) (h1 : ks.length ≤ 1048576) (h2 : vs.length ≤ 1048576) :
    ∃ (g : Bool) (ws : List Atom), (ib = false → g = false) ∧ (∀ x ∈ ws, inI x.1 ∧ ∀ z ∈ x.2, inI z) ∧ ws.length + terms ws ≤ 1048576 ∧
      ∀ k, 2000000 ≤ k → C (k + 11) 152 [.agg [.d (.list 1 (I1 ks)), .d (.list 1 (I1 vs))], .agg [.d (.list 3 a), .d (.list 2 (A1 xs))]] = some (ar2 g a ws) ∧ C (k + 11) 71 [.agg [.d (.list 1 (I1 ks)), .d (.list 1 (I1 vs))], .agg [.d (.list 3 a), .d (.list 2 (A1 xs))]] = some (ar2 g a ws) := by
  obtain ⟨b, ap, hap, hin, hsub⟩ := ap_ex ks vs hV h1 h2
  have hx : ∀ x ∈ xs, x.2.length ≤ 1048576 := fun x hx => by have := len_terms hx; omega
  have ht := terms_can (xs.map (mapF ap))
  rw [terms_mapF] at ht
  have hcl := can_len (xs.map (mapF ap))
  rw [List.length_map] at hcl
  refine ⟨b && ib, subI ap xs, fun h => by rw [h, Bool.and_false], fun z hz => ?_, by unfold subI; omega, fun k hk => ⟨?_, ?_⟩⟩
  · obtain ⟨x, hxm, rfl⟩ := List.mem_map.1 ((mem_can _ _).1 hz)
    refine ⟨hI0 x hxm, fun v hv => ?_⟩
    obtain ⟨u, hu, rfl⟩ := List.mem_map.1 hv
    exact hin u (hI x hxm u hu)
  · exact c152 hap (fun k hk => (hsub k hk).1) (fun k hk => (hinst k hk).1) hal hx hI (by omega) hk
  · exact c71 hap (fun k hk => (hsub k hk).2) (fun k hk => (hinst k hk).2) hal hx hI (fun h => by have := h30 h; omega) hk
theorem in40_nulls (zs : List Int) : ∀ z ∈ nulls zs, 0 ≤ z ∧ z < 40 := by
  intro z hz
  obtain ⟨v, _, hv, rfl⟩ := (mem_nulls zs z).1 hz
  have := isN_t hv
  omega
theorem nulls_short (zs : List Int) : (nulls zs).length ≤ 40 := ss_short (nulls_ss zs) (in40_nulls zs)
theorem c70g (k : Nat) (v : Int) (h : 0 ≤ v ∧ v < 1000) : C (k + 1) 70 [.d (.int .i64 v)] = io (neg v) := by rw [F70.run, show IntKind.i64.wrap (-1 - v) = neg v from wrap_id (by omega) (by omega)]; rfl
theorem c96g (k : Nat) (v : Int) (h : 0 ≤ v ∧ v < 1000) : C (k + 1) 96 [.d (.int .i64 v)] = io (neg v) := by rw [F96.run, show IntKind.i64.wrap (-1 - v) = neg v from wrap_id (by omega) (by omega)]; rfl
/-! ### an instance returned: as a law reads it -/
def rd (R : Res) (U : Ovi.Rows) (V : Ovi.Rows) (g : Bool) : Prop := resF 133 3 0 2 true 2 R 0 0 = some U ∧ resF 118 2 1 2 true 2 R 0 1 = some V ∧ resB 2 false 1 R 1 0 = some g
def outR (g : Bool) (a : Ovi.Rows) (ws : List Atom) : Ovi.Rows × List Atom := cond g (a, ws) ([], [])
def nilR : Res := [(true, [.nil, .nil]), (false, [.d (.bool false)])]
def retR (g : Bool) (a : Ovi.Rows) (ws : List Atom) : Res := [(true, [.frow 133 3 0 (outR g a ws).1, .frow 118 2 1 (A1 (outR g a ws).2)]), (false, [.d (.bool g)])]
theorem rd_nil : rd nilR [] [] false := ⟨rfl, rfl, rfl⟩
theorem rd_ret (g : Bool) (a : Ovi.Rows) (ws : List Atom) : rd (retR g a ws) (outR g a ws).1 (A1 (outR g a ws).2) g := ⟨rfl, rfl, rfl⟩
/-- ApplyToInstance's result, handed on -/
theorem ar2_ret (g : Bool) (a : Ovi.Rows) (ws : List Atom) : (bindR (some (ar2 g a ws)) fun r15 => bindL (resO 133 3 2 true 2 r15 0 0) fun l16 => bindL (resF 118 2 1 2 true 2 r15 0 1) fun l17 => bindB (resB 2 false 1 r15 1 0) fun b18 => some ([(true, [RL.frow 133 3 0 l16, RL.frow 118 2 1 l17]), (false, [RL.d (D.bool b18)])])) = some (retR g a ws) := by
  cases g <;> rfl
theorem ar2_mid (g : Bool) (a : Ovi.Rows) (ws : List Atom) : ∃ R, (bindR (some (ar2 g a ws)) fun r18 => bindL (resO 133 3 2 true 2 r18 0 0) fun l19 => bindL (resF 118 2 1 2 true 2 r18 0 1) fun l20 => bindB (resB 2 false 1 r18 1 0) fun b21 => some ([(true, [RL.row 133 3 l19, RL.frow 118 2 1 l20]), (false, [RL.d (D.bool b21)])])) = some R ∧
    (bindR (some R) fun r7 => bindL (resO 133 3 2 true 2 r7 0 0) fun l8 => bindL (resF 118 2 1 2 true 2 r7 0 1) fun l9 => bindB (resB 2 false 1 r7 1 0) fun b10 => some ([(true, [RL.frow 133 3 0 l8, RL.frow 118 2 1 l9]), (false, [RL.d (D.bool b10)])])) = some (retR g a ws) := by
  cases g <;> exact ⟨_, rfl, rfl⟩
/-! ### ShiftNulls -/
def sh (by' : Int) (z : Int) : Int := neg ((z + by') % 40)
theorem sh_in {by' z : Int} : inI (sh by' z) := by unfold sh neg inI; omega
/-- spec.ShiftNulls, the loop -/
theorem l13 (V : List Int) (hV : ∀ z ∈ V, 0 ≤ z ∧ z < 40) (hl : V.length ≤ 40) (by' : Int) (hb : 0 ≤ by' ∧ by' ≤ 39) (a b : Ovi.Rows) (K : Nat) : ∀ (m i n : Nat), i + m = V.length → m < n →
    F13.L6 (K + 1) (C (K + 1)) n by' (I1 V) (i : Int) a b [] [] (I1 (V.take i)) (I1 ((V.take i).map (sh by'))) = bindR (C (K + 1) 71 [.agg [.d (.list 1 (I1 V)), .d (.list 1 (I1 (V.map (sh by'))))], .agg [.d (.list 3 a), .d (.list 2 b)]]) fun r15 => bindL (resO 133 3 2 true 2 r15 0 0) fun l16 => bindL (resF 118 2 1 2 true 2 r15 0 1) fun l17 => bindB (resB 2 false 1 r15 1 0) fun b18 => some ([(true, [RL.frow 133 3 0 l16, RL.frow 118 2 1 l17]), (false, [RL.d (D.bool b18)])]) := by
  have hmax : (1048576 : Nat) ≤ maxLen := by decide
  intro m
  induction m with
  | zero =>
    intro i n hm hn
    obtain ⟨n, rfl⟩ : ∃ j, n = j + 1 := ⟨n - 1, by omega⟩
    obtain rfl : i = V.length := by omega
    rw [F13.L6.succ, I1_len, ite'_f (lt_f (by omega)), List.take_length]
  | succ m ih =>
    intro i n hm hn
    obtain ⟨n, rfl⟩ : ∃ j, n = j + 1 := ⟨n - 1, by omega⟩
    have hi : i < V.length := by omega
    have hg := List.getElem?_eq_getElem hi
    have hz := hV _ (List.getElem_mem hi)
    have hw : (IntKind.i64.wrap (V[i] + by')).tmod 40 = (V[i] + by') % 40 := by
      rw [wrap_id (by omega) (by omega), Int.tmod_eq_emod_of_nonneg (by omega)]
    have := ih (i + 1) n (by omega) (by omega)
    rw [List.take_succ_eq_append_getElem hi, List.map_append, List.map_singleton] at this
    rw [F13.L6.succ, I1_len, ite'_t (lt_t hi), ite'_t (inR_t hi), I1_c hg, bindI_s, ite'_t (fits_t (by rw [I1_len, List.length_take]; simp only [List.length_cons, List.length_nil]; omega)), ite'_t (inR_t hi), bindI_s, hw, c70g K _ (by omega), iB', ite'_t (fits_t (by rw [I1_len, List.length_map, List.length_take]; simp only [List.length_cons, List.length_nil]; omega)), next_i hi (m := V.length) (by omega), I1_snoc, I1_snoc]
    exact this
/-- impl.renamed, the loop, under a function of numbers -/
theorem l74 (V : List Int) (hV : ∀ z ∈ V, 0 ≤ z ∧ z < 40) (hl : V.length ≤ 40) (f : FuncId) (caps : Ovi.Rows) (p : Int → Int) (a b : Ovi.Rows) (K : Nat)
    (hp : ∀ z ∈ V, C (K + 1) f (AV.d (D.int IntKind.i64 z) :: [].append (List.map (fun (c : List D) => AV.cap c 0) caps)) = io (p z) ∧ 0 ≤ p z ∧ p z < 1000) : ∀ (m i n : Nat), i + m = V.length → m < n →
    F74.L3 (K + 1) (C (K + 1)) n f caps (I1 V) (V.length : Int) (i : Int) a b [] [] (I1 V) (I1 ((V.take i).map fun z => neg (p z))) = bindR (C (K + 1) 152 [.agg [.d (.list 1 (I1 V)), .d (.list 1 (I1 (V.map fun z => neg (p z))))], .agg [.d (.list 3 a), .d (.list 2 b)]]) fun r18 => bindL (resO 133 3 2 true 2 r18 0 0) fun l19 => bindL (resF 118 2 1 2 true 2 r18 0 1) fun l20 => bindB (resB 2 false 1 r18 1 0) fun b21 => some ([(true, [RL.row 133 3 l19, RL.frow 118 2 1 l20]), (false, [RL.d (D.bool b21)])]) := by
  have hmax : (1048576 : Nat) ≤ maxLen := by decide
  intro m
  induction m with
  | zero =>
    intro i n hm hn
    obtain ⟨n, rfl⟩ : ∃ j, n = j + 1 := ⟨n - 1, by omega⟩
    obtain rfl : i = V.length := by omega
    rw [F74.L3.succ, ite'_f (lt_f (by omega)), List.take_length]
  | succ m ih =>
    intro i n hm hn
    obtain ⟨n, rfl⟩ : ∃ j, n = j + 1 := ⟨n - 1, by omega⟩
    have hi : i < V.length := by omega
    have hg := List.getElem?_eq_getElem hi
    obtain ⟨e1, e2, e3⟩ := hp _ (List.getElem_mem hi)
    have := ih (i + 1) n (by omega) (by omega)
    rw [List.take_succ_eq_append_getElem hi, List.map_append, List.map_singleton] at this
    rw [F74.L3.succ, ite'_t (lt_t hi), I1_len, ite'_t (inR_t hi), I1_c hg, bindI_s, e1, iB', c96g K _ ⟨e2, e3⟩, iB', ite'_t (fits_t (by rw [I1_len, List.length_map, List.length_take]; simp only [List.length_cons, List.length_nil]; omega)), next_i hi (m := V.length) (by omega), I1_snoc]
    exact this
/-- ShiftNulls: both -/
theorem shB {a : Ovi.Rows} (ha : Fit Rl (.list 3 a)) (xs : List Atom) (hI0 : ∀ x ∈ xs, inI x.1) (hI : ∀ x ∈ xs, ∀ z ∈ x.2, inI z) (hs : terms xs + xs.length ≤ 1048576) (hal : a.length ≤ 1048576) (by' : Int) :
    ∃ (R1 R2 : Res) (g : Bool) (ws : List Atom), (∀ x ∈ ws, inI x.1 ∧ ∀ z ∈ x.2, inI z) ∧ ws.length + terms ws ≤ 1048576 ∧ rd R1 (outR g a ws).1 (A1 (outR g a ws).2) g ∧ rd R2 (outR g a ws).1 (A1 (outR g a ws).2) g ∧
      ∀ k, 2000000 ≤ k → C (k + 14) 13 [.agg [.d (.list 3 a), .d (.list 2 (A1 xs))], .d (.int .i64 by')] = some R1 ∧ C (k + 14) 15 [.agg [.d (.list 3 a), .d (.list 2 (A1 xs))], .d (.int .i64 by')] = some R2 := by
  obtain ⟨ib, h30, hinst⟩ := instB ha xs hI hs hal
  have hV := in40_nulls (vals xs)
  have hVl := nulls_short (vals xs)
  by_cases hb : 0 ≤ by' ∧ by' ≤ 39
  rotate_left
  · refine ⟨nilR, nilR, false, [], by simp, by simp [terms], rd_nil, rd_nil, fun k hk => ⟨?_, ?_⟩⟩
    · rw [F13.run, (hinst (k + 5) (by omega)).2, bB]
      cases ib with
      | false => rw [ite'_nf]; rfl
      | true => rw [ite'_nt, c68, bB, decide_eq_false hb, ite'_nf]; rfl
    · rw [F15.run, c73, bB, decide_eq_false hb, ite'_nf]; rfl
  obtain ⟨g, ws, hg, hw, hwl, happ⟩ := appI xs hI0 hI hs hal (fun h => (h30 h).1) hinst (nulls (vals xs)) ((nulls (vals xs)).map (sh by')) (fun v hv => by
    obtain ⟨z, _, rfl⟩ := List.mem_map.1 hv
    exact sh_in) (by omega) (by rw [List.length_map]; omega)
  have e15 : ∀ k, 2000000 ≤ k → C (k + 14) 15 [.agg [.d (.list 3 a), .d (.list 2 (A1 xs))], .d (.int .i64 by')] = some (retR g a ws) := by
    intro k hk
    obtain ⟨R, q1, q2⟩ := ar2_mid g a ws
    have e74 : C (k + 13) 74 [.agg [.d (.list 3 a), .d (.list 2 (A1 xs))], .d (.fn 75 [[.int .i64 by']])] = some R := by
      have := l74 (nulls (vals xs)) hV hVl 75 [[.int .i64 by']] (fun z => (z + by') % 40) a (A1 xs) (k + 11) (fun z hz => by
        have := hV z hz
        refine ⟨?_, by omega, by omega⟩
        show C (k + 11 + 1) 75 [.d (.int .i64 z), .cap [.int .i64 by'] 0] = _
        rw [F75.run, wrap_id (by omega) (by omega), Int.tmod_eq_emod_of_nonneg (by omega)]; rfl) (nulls (vals xs)).length 0 (k + 12) (by omega) (by omega)
      rw [F74.run, c151 (k := k + 8) a xs hI (by omega) hs]
      simp only [bindR_s, resO_s, bindL_s]
      rw [I1_len]
      refine this.trans ?_
      rw [show ((nulls (vals xs)).map fun z => neg ((z + by') % 40)) = (nulls (vals xs)).map (sh by') from rfl, (happ (k + 1) (by omega)).1]
      exact q1
    rw [F15.run, c73, bB, decide_eq_true hb, ite'_nt, e74]
    exact q2
  cases ib with
  | false =>
    obtain rfl := hg rfl
    refine ⟨nilR, retR false a ws, false, ws, hw, hwl, rd_nil, rd_ret _ _ _, fun k hk => ⟨?_, e15 k hk⟩⟩
    rw [F13.run, (hinst (k + 5) (by omega)).2, bB, ite'_nf]; rfl
  | true =>
    refine ⟨retR g a ws, retR g a ws, g, ws, hw, hwl, rd_ret _ _ _, rd_ret _ _ _, fun k hk => ⟨?_, e15 k hk⟩⟩
    have := l13 (nulls (vals xs)) hV hVl by' hb a (A1 xs) (k + 12) (nulls (vals xs)).length 0 (k + 13) (by omega) (by omega)
    rw [F13.run, (hinst (k + 5) (by omega)).2, bB, ite'_nt, c68, bB, decide_eq_true hb, ite'_nt, c69 (k := k + 9) a xs hI (by omega) hs]
    simp only [bindR_s, resL_d, bindL_s]
    refine this.trans ?_
    rw [(happ (k + 2) (by omega)).2]
    exact ar2_ret g a ws
end Go.Proofs.YthicohakeljdcaaGreat.Q

/-! YNf -/
namespace Go.Proofs.YthicohakeljdcaaGreat.Q
open Go Ovi
variable {k : Nat}
theorem law3n (call : CallF) (k : Nat) {a b : Ovi.Rows} {by' : Int} {n : Int}
    (t12 : call 12 [.agg [.d (.list 3 a), .d (.list 2 b)], .d (.int .i64 1048576)] = some [(false, [.d (.int .i64 n)])]) (hn : decide (n < 0) = true) :
    evFnK P hs call (3 : FuncId) k Tryz.f3 [.agg [.s 3 a, .s 2 b], .d (.int .i64 by')] = bo true := by
  rw [F3.eq, t12, bindR_s, resI_s, bindI_s, ite'_t hn]
  rfl
theorem law3q (call : CallF) (k : Nat) {a b a' b' U V U' V' : Ovi.Rows} {by' : Int} {g : Bool} {n z2 z3 : Int} {X14 R1 R2 X17 Y17 : Res}
    (t12 : call 12 [.agg [.d (.list 3 a), .d (.list 2 b)], .d (.int .i64 1048576)] = some [(false, [.d (.int .i64 n)])]) (hn : decide (n < 0) = false)
    (t14 : call 14 [.agg [.d (.list 3 a), .d (.list 2 b)]] = some X14) (x0 : resO 133 3 1 true 2 X14 0 0 = some a) (x1 : resF 118 2 1 1 true 2 X14 0 1 = some b)
    (t13 : call 13 [.agg [.d (.list 3 a), .d (.list 2 b)], .d (.int .i64 by')] = some R1) (t15 : call 15 [.agg [.d (.list 3 a), .d (.list 2 b)], .d (.int .i64 by')] = some R2)
    (h1 : rd R1 U V g) (h2 : rd R2 U V g)
    (d1 : depR 0 a = true) (d2 : depR 1 b = true) (d4 : depR 0 U = true) (d5 : depR 1 V = true)
    (t16 : call 16 [.agg [.d (.list 3 U), .d (.list 2 V)], .agg [.d (.list 3 U), .d (.list 2 V)]] = some [(false, [.d (.bool true)])])
    (t16b : call 16 [.agg [.d (.list 3 a), .d (.list 2 b)], .agg [.d (.list 3 a), .d (.list 2 b)]] = some [(false, [.d (.bool true)])])
    (m17 : call 17 [.var 0 0, .d (.bool true), .d (.int .i64 1), .d (.int .i64 133), .d (.list 3 a), .d (.int .i64 118), .d (.list 2 b)] = some X17)
    (v0 : resO 133 3 3 false 1 X17 0 0 = some a') (v1 : resO 118 2 3 false 1 X17 1 0 = some b') (v2 : resI .i64 3 false 1 X17 2 0 = some z2) (hz2 : 0 ≤ z2)
    (m17b : call 17 [.var 0 0, .d (.bool true), .d (.int .i64 1), .d (.int .i64 133), .d (.list 3 U), .d (.int .i64 118), .d (.list 2 V)] = some Y17)
    (u0 : resO 133 3 3 false 1 Y17 0 0 = some U') (u1 : resO 118 2 3 false 1 Y17 1 0 = some V') (u2 : resI .i64 3 false 1 Y17 2 0 = some z3) (hz3 : 0 ≤ z3)
    (t18 : call 18 [.agg [.d (.list 3 U'), .d (.list 2 V')], .d (.int .i64 1)] = some [(false, [.d (.int .i64 z3)])]) :
    evFnK P hs call (3 : FuncId) k Tryz.f3 [.agg [.s 3 a, .s 2 b], .d (.int .i64 by')] = bo true := by
  obtain ⟨r0, r1, r2⟩ := h1
  obtain ⟨s0, s1, s2⟩ := h2
  have n1 : decide (z2 < 0) = false := by simp only [decide_eq_false_iff_not]; omega
  have n3 : decide (z3 < 0) = false := by simp only [decide_eq_false_iff_not]; omega
  have n4 : (z3 != z3) = false := bne_self _
  have n5 : (!g == g) = false := by cases g <;> rfl
  have tt : (!true) = false := rfl
  have i0 : ∀ (x y : Option Res), ite' false x y = y := fun _ _ => rfl
  have i1 : ∀ (x y : Option Res), ite' true x y = x := fun _ _ => rfl
  rw [F3.eq, t12, bindR_s, resI_s, bindI_s, hn, i0]
  simp only [t14, bindR_s, x0, x1, bindL_s, t13, t15, r0, r1, r2, s0, s1, s2, bindB_s, d1, d2, d4, d5, i1]
  simp only [t16, t16b, bindR_s, resB_s, bindB_s, tt, i0, n5]
  rw [m17]
  simp only [bindR_s, v0, v1, v2, bindL_s, bindI_s, n1, i0, t16, resB_s, bindB_s, tt, n5, d1, d2, d4, d5, i1]
  rw [m17b]
  simp only [bindR_s, u0, u1, u2, bindL_s, bindI_s, t18, resI_s, n3, n4, i0, t16, resB_s, bindB_s, tt, n5, d4, d5, i1]
  rfl
set_option maxRecDepth 1000000 in
theorem law3 (hk : 3000000 ≤ k) {a b : Ovi.Rows} {by' : Int} (h1 : Fit Rl (.list 3 a)) (h2 : Fit At (.list 2 b)) : C k 3 [.agg [.s 3 a, .s 2 b], .d (.int .i64 by')] = bo true := by
  obtain ⟨k, rfl⟩ : ∃ j, k = j + 22 := ⟨k - 22, by omega⟩
  have hs0 : C (k + 21 + 1) 3 [.agg [.s 3 a, .s 2 b], .d (.int .i64 by')] = evFnK P hs (C (k + 21)) 3 (k + 21) Tryz.f3 [.agg [.s 3 a, .s 2 b], .d (.int .i64 by')] := by kernel_rfl
  rw [hs0]
  have t12 := c12 (k := k + 21) (by omega) h1 h2 (left := 1048576) (by omega) (by omega)
  rcases szT_cases 1048576 (szC [.list 3 a, .list 2 b]) with ⟨q1, e1⟩ | ⟨q1, e1⟩ <;> rw [e1] at t12
  rotate_left
  · exact law3n _ _ t12 neg_t
  have p1 := q1
  simp only [szC] at p1
  have z1 : szD (.list 3 a) ≤ 1048576 := by omega
  have z2 : szD (.list 2 b) ≤ 1048576 := by omega
  have t14 := c14 (k := k + 21) (by omega) h1 h2 z1 z2
  have t16b := c16 (k := k + 21) (by omega) h1 h2 z1 z2
  obtain ⟨xs, rfl, hX⟩ := h2.atoms'
  have y2 := z2
  rw [sz_atoms] at y2
  have ya := Nat.le_trans sz_rels z1
  have hmax : (1048576 : Nat) ≤ maxLen := by decide
  obtain ⟨R1, R2, g, ws, hw, hwl, hr1, hr2, hc⟩ := shB h1 xs (fun x hx => (hX x hx).1) (fun x hx => (hX x hx).2) (by omega) ya by'
  obtain ⟨t13, t15⟩ := hc (k + 7) (by omega)
  obtain ⟨U, ys, hU0, hU, hV, s1, s2, s3, s4⟩ : ∃ (U : Ovi.Rows) (ys : List Atom), outR g a ws = (U, ys) ∧ Fit Rl (.list 3 U) ∧ Fit (.list [.int .i64, .list [.int .i64]]) (.list 2 (A1 ys)) ∧ szD (.list 3 U) ≤ 1048576 ∧ szD (.list 2 (A1 ys)) ≤ 1048576 ∧ U.length ≤ 1048576 ∧ ys.length + terms ys ≤ 1048576 := by
    cases g with
    | false => exact ⟨[], [], rfl, by unfold Rl; simp [Fit], by simp [Fit, A1], by simp [szD, szR], by simp [szD, szR, A1], by simp, by simp [terms]⟩
    | true => exact ⟨a, ws, rfl, h1, atoms_fit (by omega) (fun z hz => ⟨(hw z hz).1, by have := len_terms hz; omega, (hw z hz).2⟩), z1, by rw [sz_atoms]; exact hwl, ya, hwl⟩
  rw [hU0] at hr1 hr2
  have t16 := c16 (k := k + 21) (by omega) hU hV s1 s2
  have h133 : ((133 : Nat) : Int) = 133 := rfl
  have h118 : ((118 : Nat) : Int) = 118 := rfl
  obtain ⟨a', ha'⟩ := relMark h1 1
  obtain ⟨b', hb'⟩ := factMark xs (1 + 3 * a.length)
  have m17 := e17 (k := k + 20) ha' hb' (by omega)
  rw [h133, h118] at m17
  obtain ⟨U', hU'⟩ := relMark hU 1
  obtain ⟨V', hV'⟩ := factMark ys (1 + 3 * U.length)
  have m17b := e17 (k := k + 20) hU' hV' (by omega)
  rw [h133, h118] at m17b
  have lP := (mkRows_up stepRel_up hU').2
  have lQ := (mkRows_up stepFact_up hV').2
  rw [A1_len] at lQ
  have t18 := c18 (k := k + 18) hU' hV' (by omega) (by omega) (by omega) (by omega) (fun r hr z l e => by
    obtain ⟨x, hx, rfl⟩ := List.mem_map.1 hr
    cases e
    rw [I1_len]
    have := len_terms hx
    omega) (by omega)
  exact law3q (C (k + 21)) (k + 21) t12 (neg_f (by omega)) t14 F14x0 F14x1 t13 t15 hr1 hr2 (dep_rel h1) (dep_facts xs) (dep_rel hU) (dep_facts ys) t16 t16b
    m17 rfl rfl rfl (by omega) m17b rfl rfl rfl (by omega) t18
end Go.Proofs.YthicohakeljdcaaGreat.Q

/-! YNg -/
namespace Go.Proofs.YthicohakeljdcaaGreat.Q
open Go Ovi
variable {k : Nat}
/-! ### RenumberNulls: the nulls in the order of their first appearance -/
def addO (o : List Int) (v : Int) : List Int := if isN v = true then (if -1 - v ∈ o then o else o ++ [-1 - v]) else o
theorem addO_len (o : List Int) (v : Int) : (addO o v).length ≤ o.length + 1 := by
  unfold addO; split
  · split
    · omega
    · simp
  · omega
theorem addO_mem (o : List Int) (v z : Int) : z ∈ addO o v ↔ z ∈ o ∨ (isN v = true ∧ z = -1 - v) := by
  unfold addO; split
  · rename_i h
    split
    · rename_i h2
      constructor
      · exact .inl
      · rintro (h3 | ⟨_, rfl⟩)
        · exact h3
        · exact h2
    · rw [List.mem_append, List.mem_singleton]
      constructor
      · rintro (h3 | h3)
        · exact .inl h3
        · exact .inr ⟨h, h3⟩
      · rintro (h3 | ⟨_, h3⟩)
        · exact .inl h3
        · exact .inr h3
  · rename_i h
    constructor
    · exact .inl
    · rintro (h3 | ⟨h3, _⟩)
      · exact h3
      · exact absurd h3 h
theorem addO_nd {o : List Int} (v : Int) (h : o.Nodup) : (addO o v).Nodup := by
  unfold addO; split
  · split
    · exact h
    · rename_i h2
      rw [List.nodup_append]
      exact ⟨h, by simp, fun a ha b hb e => by
        rw [List.mem_singleton] at hb
        subst e hb
        exact h2 ha⟩
  · exact h
theorem fold_len (zs o : List Int) : (zs.foldl addO o).length ≤ o.length + zs.length := by
  induction zs generalizing o with
  | nil => exact Nat.le_refl _
  | cons v r ih =>
    have h1 := ih (addO o v)
    have h2 := addO_len o v
    simp only [List.foldl_cons, List.length_cons]
    omega
theorem fold_mem (zs o : List Int) (z : Int) : z ∈ zs.foldl addO o ↔ z ∈ o ∨ ∃ v ∈ zs, isN v = true ∧ z = -1 - v := by
  induction zs generalizing o with
  | nil => simp
  | cons v r ih =>
    rw [List.foldl_cons, ih, addO_mem]
    constructor
    · rintro ((h | h) | ⟨u, hu, h⟩)
      · exact .inl h
      · exact .inr ⟨v, List.mem_cons_self, h⟩
      · exact .inr ⟨u, List.mem_cons_of_mem _ hu, h⟩
    · rintro (h | ⟨u, hu, h⟩)
      · exact .inl (.inl h)
      · rcases List.mem_cons.1 hu with rfl | hu
        · exact .inl (.inr h)
        · exact .inr ⟨u, hu, h⟩
theorem fold_nd {zs o : List Int} (h : o.Nodup) : (zs.foldl addO o).Nodup := by
  induction zs generalizing o with
  | nil => exact h
  | cons v r ih => exact ih (addO_nd v h)
theorem vals_snoc {xs : List Atom} {i : Nat} (hi : i < xs.length) : vals (xs.take (i + 1)) = vals (xs.take i) ++ (xs[i]).2 := by
  rw [List.take_succ_eq_append_getElem hi]
  simp only [vals, List.flatMap_append, List.flatMap_cons, List.flatMap_nil, List.append_nil]
theorem vals_take_len (xs : List Atom) (i : Nat) : (vals (xs.take i)).length ≤ terms xs := by
  rw [vals_len]
  exact terms_le xs i
/-- the order of the nulls -/
def ordV (xs : List Atom) : List Int := (vals xs).foldl addO []
theorem ord_mem (xs : List Atom) (z : Int) : z ∈ ordV xs ↔ z ∈ nulls (vals xs) := by
  unfold ordV
  rw [fold_mem, mem_nulls]
  simp only [List.not_mem_nil, false_or]
theorem ord_nd (xs : List Atom) : (ordV xs).Nodup := fold_nd (by simp)
/-- impl: the loops -/
theorem l20 (xs : List Atom) (hI : ∀ x ∈ xs, ∀ z ∈ x.2, inI z) (hs : terms xs + xs.length ≤ 1048576) (a b : Ovi.Rows) (K : Nat) (hK : 2000000 ≤ K) : ∀ (m i n : Nat), i + m = xs.length → m < n →
    F20.L3 (K + 2) (C (K + 2)) n (A1 xs) (xs.length : Int) (i : Int) a b [] [] (I1 ((vals (xs.take i)).foldl addO [])) = bindR (C (K + 2) 74 [.agg [.d (.list 3 a), .d (.list 2 b)], .d (.fn 84 [[.list 1 (I1 (ordV xs))]])]) fun r13 => bindL (resO 133 3 2 true 2 r13 0 0) fun l14 => bindL (resF 118 2 1 2 true 2 r13 0 1) fun l15 => bindB (resB 2 false 1 r13 1 0) fun b16 => some ([(true, [RL.frow 133 3 0 l14, RL.frow 118 2 1 l15]), (false, [RL.d (D.bool b16)])]) := by
  have hmax : (1048576 : Nat) ≤ maxLen := by decide
  have inner : ∀ (zs : List Int) (i : Nat), (∀ z ∈ zs, inI z) → zs.length ≤ 1048576 → i < xs.length → ∀ (m j n k3 : Nat) (acc : List Int), j + m = zs.length → m < n → acc.length + m ≤ 1048576 →
      F20.L6 (K + 2) (C (K + 2)) k3 n (A1 xs) (xs.length : Int) (i : Int) (I1 zs) (zs.length : Int) (j : Int) a b [] [] (I1 acc) = F20.L3 (K + 2) (C (K + 2)) k3 (A1 xs) (xs.length : Int) ((i + 1 : Nat) : Int) a b [] [] (I1 ((zs.drop j).foldl addO acc)) := by
    intro zs i hzI hzl hi m
    induction m with
    | zero =>
      intro j n k3 acc hm hn ha
      obtain ⟨n, rfl⟩ : ∃ j, n = j + 1 := ⟨n - 1, by omega⟩
      obtain rfl : j = zs.length := by omega
      rw [F20.L6.succ, ite'_f (lt_f (by omega)), List.drop_length, next_i hi (m := xs.length) (by omega)]
      rfl
    | succ m ih =>
      intro j n k3 acc hm hn ha
      obtain ⟨n, rfl⟩ : ∃ j, n = j + 1 := ⟨n - 1, by omega⟩
      have hj : j < zs.length := by omega
      have hg := List.getElem?_eq_getElem hj
      have hz := hzI _ (List.getElem_mem hj)
      rw [F20.L6.succ, ite'_t (lt_t hj), I1_len, ite'_t (inR_t hj), I1_c hg, bindI_s, c82 (k := K) hz, nnB, List.drop_eq_getElem_cons hj, List.foldl_cons, next_i hj (m := zs.length) (by omega)]
      have hl := addO_len acc zs[j]
      cases hN : isN zs[j] with
      | false =>
        rw [ite'_f rfl]
        have e : addO acc zs[j] = acc := by unfold addO; rw [if_neg (by simp [hN])]
        rw [e]
        exact ih (j + 1) n k3 acc (by omega) (by omega) (by omega)
      | true =>
        rw [ite'_t rfl, if_pos rfl, c83 (k := K) acc (-1 - zs[j]) (by omega) (by omega), bB]
        by_cases hm' : -1 - zs[j] ∈ acc
        · have e : addO acc zs[j] = acc := by unfold addO; rw [if_pos hN, if_pos hm']
          rw [decide_eq_true hm', ite'_nt, e]
          exact ih (j + 1) n k3 acc (by omega) (by omega) (by omega)
        · have e : addO acc zs[j] = acc ++ [-1 - zs[j]] := by unfold addO; rw [if_pos hN, if_neg hm']
          rw [decide_eq_false hm', ite'_nf, e, ite'_t (fits_t (by rw [I1_len]; simp only [List.length_cons, List.length_nil]; omega)), I1_snoc]
          exact ih (j + 1) n k3 (acc ++ [-1 - zs[j]]) (by omega) (by omega) (by rw [List.length_append, List.length_singleton]; omega)
  intro m
  induction m with
  | zero =>
    intro i n hm hn
    obtain ⟨n, rfl⟩ : ∃ j, n = j + 1 := ⟨n - 1, by omega⟩
    obtain rfl : i = xs.length := by omega
    rw [F20.L3.succ, ite'_f (lt_f (by omega)), List.take_length]
    rfl
  | succ m ih =>
    intro i n hm hn
    obtain ⟨n, rfl⟩ : ∃ j, n = j + 1 := ⟨n - 1, by omega⟩
    have hi : i < xs.length := by omega
    have hg := List.getElem?_eq_getElem hi
    have hgm := List.getElem_mem hi
    have hlt := len_terms hgm
    have h1 := vals_take_len xs (i + 1)
    rw [vals_snoc hi, List.length_append] at h1
    have h2 := fold_len (vals (xs.take i)) []
    have := ih (i + 1) n (by omega) (by omega)
    rw [vals_snoc hi, List.foldl_append] at this
    rw [F20.L3.succ, ite'_t (lt_t hi), A1_len, ite'_t (inR_t hi), A1_c0 hg, bindI_s, A1_c1 hg, bindL_s, I1_len]
    have h3 := inner (xs[i]).2 i (hI _ hgm) (by omega) hi (xs[i]).2.length 0 (K + 2) n ((vals (xs.take i)).foldl addO []) (by omega) (by omega) (by simp only [List.length_nil] at h2; omega)
    rw [List.drop_zero] at h3
    exact h3.trans this
/-- slices.Index on numbers, each once -/
theorem c85 {zs : List Int} (hnd : zs.Nodup) {v : Int} (hv : v ∈ zs) (hl : zs.length ≤ 1048576) (K : Nat) (hK : 2000000 ≤ K) : C (K + 1) 85 [.d (.list 1 (I1 zs)), .d (.int .i64 v)] = io (zs.idxOf v : Nat) := by
  have hmax : (1048576 : Nat) ≤ maxLen := by decide
  rw [F85.run, I1_len]
  rcases loop_first (xs := zs) (L := fun m i => F85.L2 K (C K) m (I1 zs) v (zs.length : Int) i) (stop := fun _ x => v == x) (hit := fun i => io (i : Int)) (fin := io (-1))
    (fun m i x hx => by
      have hi := (List.getElem?_eq_some_iff.1 hx).1
      rw [F85.L2.succ, I1_len, ite'_t (lt_t hi), ite'_t (inR_t hi), I1_c hx, bindI_s, next_i hi (m := zs.length) (by omega)]; rfl)
    (fun m => by rw [F85.L2.succ, ite'_f (lt_f (by omega))]; rfl) K (by omega) with ⟨i, x, hx, hst, _, e⟩ | ⟨h, _⟩
  · obtain ⟨hi, hx⟩ := List.getElem?_eq_some_iff.1 hx
    have hvx : v = x := by simpa using hst
    have : zs.idxOf v = i := by rw [hvx, ← hx]; exact hnd.idxOf_getElem i hi
    rw [this]
    exact e
  · obtain ⟨i, hi⟩ := List.mem_iff_getElem?.1 hv
    have := h i v hi
    simp at this
/-- spec: the first loops -/
theorem l19 (xs : List Atom) (hI : ∀ x ∈ xs, ∀ z ∈ x.2, inI z) (hs : terms xs + xs.length ≤ 1048576) (a : Ovi.Rows) (K : Nat) (hK : 2000000 ≤ K) : ∀ (m i n : Nat), i + m = xs.length → m < n →
    F19.L5 (K + 2) (C (K + 2)) n (i : Int) a (A1 xs) [] [] (I1 ((vals (xs.take i)).foldl addO [])) = F19.L15 (K + 2) (C (K + 2)) (K + 2) 0 a (A1 xs) [] [] (I1 (ordV xs)) [] [] := by
  have hmax : (1048576 : Nat) ≤ maxLen := by decide
  have inner : ∀ (i : Nat) (hi : i < xs.length), ∀ (m j n k5 : Nat) (acc : List Int), j + m = (xs[i]).2.length → m < n → acc.length + m ≤ 1048576 →
      F19.L8 (K + 2) (C (K + 2)) k5 n (i : Int) (j : Int) a (A1 xs) [] [] (I1 acc) = F19.L5 (K + 2) (C (K + 2)) k5 ((i + 1 : Nat) : Int) a (A1 xs) [] [] (I1 (((xs[i]).2.drop j).foldl addO acc)) := by
    intro i hi m
    have hgi := List.getElem?_eq_getElem hi
    have hgm := List.getElem_mem hi
    have hzl := len_terms hgm
    induction m with
    | zero =>
      intro j n k5 acc hm hn ha
      obtain ⟨n, rfl⟩ : ∃ j, n = j + 1 := ⟨n - 1, by omega⟩
      obtain rfl : j = (xs[i]).2.length := by omega
      rw [F19.L8.succ, A1_len, ite'_t (inR_t hi), A1_c1 hgi, bindL_s, I1_len, ite'_f (lt_f (by omega)), List.drop_length, next_i hi (m := xs.length) (by omega)]
      rfl
    | succ m ih =>
      intro j n k5 acc hm hn ha
      obtain ⟨n, rfl⟩ : ∃ j, n = j + 1 := ⟨n - 1, by omega⟩
      have hj : j < (xs[i]).2.length := by omega
      have hg := List.getElem?_eq_getElem hj
      have hz := hI _ hgm _ (List.getElem_mem hj)
      rw [F19.L8.succ, A1_len, ite'_t (inR_t hi), A1_c1 hgi, bindL_s, I1_len, ite'_t (lt_t hj), ite'_t (inR_t hi), bindL_s, I1_len, ite'_t (inR_t hj), I1_c hg, bindI_s, c80 (k := K) hz, nnB, List.drop_eq_getElem_cons hj, List.foldl_cons, next_i hj (m := (xs[i]).2.length) (by omega)]
      have hl := addO_len acc (xs[i]).2[j]
      cases hN : isN (xs[i]).2[j] with
      | false =>
        rw [ite'_f rfl]
        have e : addO acc (xs[i]).2[j] = acc := by unfold addO; rw [if_neg (by simp [hN])]
        rw [e]
        exact ih (j + 1) n k5 acc (by omega) (by omega) (by omega)
      | true =>
        rw [ite'_t rfl, if_pos rfl, c81 (k := K + 1) acc (-1 - (xs[i]).2[j]) (by omega) (by omega), bB]
        by_cases hm' : -1 - (xs[i]).2[j] ∈ acc
        · have e : addO acc (xs[i]).2[j] = acc := by unfold addO; rw [if_pos hN, if_pos hm']
          rw [decide_eq_true hm', ite'_nt, e]
          exact ih (j + 1) n k5 acc (by omega) (by omega) (by omega)
        · have e : addO acc (xs[i]).2[j] = acc ++ [-1 - (xs[i]).2[j]] := by unfold addO; rw [if_pos hN, if_neg hm']
          rw [decide_eq_false hm', ite'_nf, e, ite'_t (fits_t (by rw [I1_len]; simp only [List.length_cons, List.length_nil]; omega)), I1_snoc]
          exact ih (j + 1) n k5 (acc ++ [-1 - (xs[i]).2[j]]) (by omega) (by omega) (by rw [List.length_append, List.length_singleton]; omega)
  intro m
  induction m with
  | zero =>
    intro i n hm hn
    obtain ⟨n, rfl⟩ : ∃ j, n = j + 1 := ⟨n - 1, by omega⟩
    obtain rfl : i = xs.length := by omega
    rw [F19.L5.succ, A1_len, ite'_f (lt_f (by omega)), List.take_length]
    rfl
  | succ m ih =>
    intro i n hm hn
    obtain ⟨n, rfl⟩ : ∃ j, n = j + 1 := ⟨n - 1, by omega⟩
    have hi : i < xs.length := by omega
    have hgm := List.getElem_mem hi
    have hlt := len_terms hgm
    have h1 := vals_take_len xs (i + 1)
    rw [vals_snoc hi, List.length_append] at h1
    have h2 := fold_len (vals (xs.take i)) []
    have := ih (i + 1) n (by omega) (by omega)
    rw [vals_snoc hi, List.foldl_append] at this
    rw [F19.L5.succ, A1_len, ite'_t (lt_t hi)]
    have h3 := inner i hi (xs[i]).2.length 0 (K + 2) n ((vals (xs.take i)).foldl addO []) (by omega) (by omega) (by simp only [List.length_nil] at h2; omega)
    rw [List.drop_zero] at h3
    exact h3.trans this
/-- the numbers below n that occur -/
def upTo (o : List Int) : Nat → List Int
  | 0 => []
  | n + 1 => upTo o n ++ (if (n : Int) ∈ o then [(n : Int)] else [])
theorem upTo_len (o : List Int) : ∀ n, (upTo o n).length ≤ n
  | 0 => Nat.le_refl _
  | n + 1 => by
    have := upTo_len o n
    unfold upTo
    rw [List.length_append]
    split <;> simp <;> omega
theorem upTo_mem (o : List Int) (z : Int) : ∀ n, z ∈ upTo o n ↔ 0 ≤ z ∧ z < (n : Int) ∧ z ∈ o
  | 0 => by simp [upTo]; omega
  | n + 1 => by
    unfold upTo
    rw [List.mem_append, upTo_mem o z n]
    constructor
    · rintro (⟨h1, h2, h3⟩ | h)
      · exact ⟨h1, by omega, h3⟩
      · split at h
        · rename_i h4
          rw [List.mem_singleton] at h
          subst h
          exact ⟨by omega, by omega, h4⟩
        · cases h
    · rintro ⟨h1, h2, h3⟩
      by_cases h4 : z < (n : Int)
      · exact .inl ⟨h1, h4, h3⟩
      · right
        have : z = (n : Int) := by omega
        subst this
        rw [if_pos h3]
        simp
theorem upTo_ss (o : List Int) : ∀ n, SS (upTo o n)
  | 0 => by simp [upTo, SS]
  | n + 1 => by
    unfold upTo
    have h1 := upTo_ss o n
    unfold SS at h1 ⊢
    rw [List.pairwise_append]
    refine ⟨h1, by split <;> simp, fun a ha b hb => ?_⟩
    have := (upTo_mem o a n).1 ha
    split at hb
    · rw [List.mem_singleton] at hb
      omega
    · cases hb
def nw (o : List Int) (z : Int) : Int := neg ((o.idxOf z : Nat) : Int)
/-- spec: the second loops -/
theorem l19b (o : List Int) (hnd : o.Nodup) (hol : o.length ≤ 40) (a b : Ovi.Rows) (K : Nat) (hK : 2000000 ≤ K) : ∀ (m i n : Nat), i + m = 40 → m < n →
    F19.L15 (K + 2) (C (K + 2)) n (i : Int) a b [] [] (I1 o) (I1 (upTo o i)) (I1 ((upTo o i).map (nw o))) = bindR (C (K + 2) 71 [.agg [.d (.list 1 (I1 (upTo o 40))), .d (.list 1 (I1 ((upTo o 40).map (nw o))))], .agg [.d (.list 3 a), .d (.list 2 b)]]) fun r13 => bindL (resO 133 3 2 true 2 r13 0 0) fun l14 => bindL (resF 118 2 1 2 true 2 r13 0 1) fun l15 => bindB (resB 2 false 1 r13 1 0) fun b16 => some ([(true, [RL.frow 133 3 0 l14, RL.frow 118 2 1 l15]), (false, [RL.d (D.bool b16)])]) := by
  have hmax : (1048576 : Nat) ≤ maxLen := by decide
  have inner : ∀ (i : Nat), i < 40 → ∀ (m j n k15 : Nat) (ks vs : List Int), j + m = o.length → m < n → ks.length + m ≤ 1000 → vs.length + m ≤ 1000 →
      F19.L18 (K + 2) (C (K + 2)) k15 n (i : Int) (j : Int) a b [] [] (I1 o) (I1 ks) (I1 vs) = F19.L15 (K + 2) (C (K + 2)) k15 ((i + 1 : Nat) : Int) a b [] [] (I1 o) (I1 (ks ++ (if (i : Int) ∈ o.drop j then [(i : Int)] else []))) (I1 (vs ++ (if (i : Int) ∈ o.drop j then [nw o i] else []))) := by
    intro i hi m
    induction m with
    | zero =>
      intro j n k15 ks vs hm hn h1 h2
      obtain ⟨n, rfl⟩ : ∃ j, n = j + 1 := ⟨n - 1, by omega⟩
      obtain rfl : j = o.length := by omega
      rw [F19.L18.succ, I1_len, ite'_f (lt_f (by omega)), List.drop_length, next_i hi (m := 40) (by omega), if_neg (by simp), if_neg (by simp), List.append_nil, List.append_nil]
    | succ m ih =>
      intro j n k15 ks vs hm hn h1 h2
      obtain ⟨n, rfl⟩ : ∃ j, n = j + 1 := ⟨n - 1, by omega⟩
      have hj : j < o.length := by omega
      have hg := List.getElem?_eq_getElem hj
      rw [F19.L18.succ, I1_len, ite'_t (lt_t hj), ite'_t (inR_t hj), I1_c hg, bindI_s, next_i hj (m := o.length) (by omega)]
      have hnd' := hnd
      rw [← List.take_append_drop j o, List.nodup_append] at hnd'
      have hd := hnd'.2.1
      rw [List.drop_eq_getElem_cons hj, List.nodup_cons] at hd
      by_cases he : o[j] = (i : Int)
      · rw [ite'_t (by simpa using he), ite'_t (fits_t (by rw [I1_len]; simp only [List.length_cons, List.length_nil]; omega)), c70g (K + 1) _ (by omega), iB', ite'_t (fits_t (by rw [I1_len]; simp only [List.length_cons, List.length_nil]; omega)), I1_snoc, I1_snoc]
        have hno : (i : Int) ∉ o.drop (j + 1) := by rw [← he]; exact hd.1
        have hyes : (i : Int) ∈ o.drop j := by rw [List.drop_eq_getElem_cons hj, he]; exact List.mem_cons_self
        have := ih (j + 1) n k15 (ks ++ [(i : Int)]) (vs ++ [neg (j : Int)]) (by omega) (by omega) (by rw [List.length_append, List.length_singleton]; omega) (by rw [List.length_append, List.length_singleton]; omega)
        rw [if_neg hno, if_neg hno, List.append_nil, List.append_nil] at this
        rw [this, if_pos hyes, if_pos hyes]
        have : nw o i = neg (j : Int) := by
          unfold nw
          rw [← he, hnd.idxOf_getElem j hj]
        rw [this]
      · rw [ite'_f (by simpa using he)]
        have := ih (j + 1) n k15 ks vs (by omega) (by omega) (by omega) (by omega)
        rw [this]
        have e : ((i : Int) ∈ o.drop j) ↔ (i : Int) ∈ o.drop (j + 1) := by
          rw [List.drop_eq_getElem_cons hj, List.mem_cons]
          constructor
          · rintro (h | h)
            · exact absurd h.symm he
            · exact h
          · exact .inr
        by_cases h3 : (i : Int) ∈ o.drop (j + 1)
        · rw [if_pos h3, if_pos h3, if_pos (e.2 h3), if_pos (e.2 h3)]
        · rw [if_neg h3, if_neg h3, if_neg (fun h => h3 (e.1 h)), if_neg (fun h => h3 (e.1 h))]
  intro m
  induction m with
  | zero =>
    intro i n hm hn
    obtain ⟨n, rfl⟩ : ∃ j, n = j + 1 := ⟨n - 1, by omega⟩
    obtain rfl : i = 40 := by omega
    rw [F19.L15.succ, ite'_f (by decide)]
  | succ m ih =>
    intro i n hm hn
    obtain ⟨n, rfl⟩ : ∃ j, n = j + 1 := ⟨n - 1, by omega⟩
    have hi : i < 40 := by omega
    have hul := upTo_len o i
    have h3 := inner i hi o.length 0 (K + 2) n (upTo o i) ((upTo o i).map (nw o)) (by omega) (by omega) (by omega) (by rw [List.length_map]; omega)
    rw [List.drop_zero] at h3
    have := ih (i + 1) n (by omega) (by omega)
    rw [F19.L15.succ, ite'_t (decide_eq_true (by omega))]
    refine h3.trans ?_
    rw [← this]
    have e : upTo o (i + 1) = upTo o i ++ (if (i : Int) ∈ o then [(i : Int)] else []) := rfl
    rw [e]
    by_cases hm' : (i : Int) ∈ o
    · rw [if_pos hm', if_pos hm', List.map_append, List.map_singleton]
    · rw [if_neg hm', if_neg hm', List.append_nil, List.append_nil]
/-- RenumberNulls: both -/
theorem rnB {a : Ovi.Rows} (ha : Fit Rl (.list 3 a)) (xs : List Atom) (hI0 : ∀ x ∈ xs, inI x.1) (hI : ∀ x ∈ xs, ∀ z ∈ x.2, inI z) (hs : terms xs + xs.length ≤ 1048576) (hal : a.length ≤ 1048576) :
    ∃ (R1 R2 : Res) (g : Bool) (ws : List Atom), (∀ x ∈ ws, inI x.1 ∧ ∀ z ∈ x.2, inI z) ∧ ws.length + terms ws ≤ 1048576 ∧ rd R1 (outR g a ws).1 (A1 (outR g a ws).2) g ∧ rd R2 (outR g a ws).1 (A1 (outR g a ws).2) g ∧
      ∀ k, 2000000 ≤ k → C (k + 14) 19 [.agg [.d (.list 3 a), .d (.list 2 (A1 xs))]] = some R1 ∧ C (k + 14) 20 [.agg [.d (.list 3 a), .d (.list 2 (A1 xs))]] = some R2 := by
  obtain ⟨ib, h30, hinst⟩ := instB ha xs hI hs hal
  have hV := in40_nulls (vals xs)
  have hVl := nulls_short (vals xs)
  have hup : upTo (ordV xs) 40 = nulls (vals xs) := ss_eq (upTo_ss _ _) (nulls_ss _) fun z => by
    rw [upTo_mem, ord_mem]
    constructor
    · rintro ⟨_, _, h⟩; exact h
    · intro h
      have := hV z h
      exact ⟨this.1, by omega, h⟩
  have hol : (ordV xs).length ≤ 40 := by
    have hp : (ordV xs).Perm (nulls (vals xs)) := (List.perm_ext_iff_of_nodup (ord_nd xs) ((nulls_ss _).imp fun h e => by omega)).2 fun z => ord_mem xs z
    rw [hp.length_eq]
    exact hVl
  have hix : ∀ z ∈ nulls (vals xs), (ordV xs).idxOf z < 40 := fun z hz => by
    have := List.idxOf_lt_length_of_mem ((ord_mem xs z).2 hz)
    omega
  obtain ⟨g, ws, hg, hw, hwl, happ⟩ := appI xs hI0 hI hs hal (fun h => (h30 h).1) hinst (nulls (vals xs)) ((nulls (vals xs)).map (nw (ordV xs))) (fun v hv => by
    obtain ⟨z, hz, rfl⟩ := List.mem_map.1 hv
    have := hix z hz
    unfold nw neg inI
    omega) (by omega) (by rw [List.length_map]; omega)
  have e20 : ∀ k, 2000000 ≤ k → C (k + 14) 20 [.agg [.d (.list 3 a), .d (.list 2 (A1 xs))]] = some (retR g a ws) := by
    intro k hk
    obtain ⟨R, q1, q2⟩ := ar2_mid g a ws
    have e74 : C (k + 13) 74 [.agg [.d (.list 3 a), .d (.list 2 (A1 xs))], .d (.fn 84 [[.list 1 (I1 (ordV xs))]])] = some R := by
      have := l74 (nulls (vals xs)) hV hVl 84 [[.list 1 (I1 (ordV xs))]] (fun z => ((ordV xs).idxOf z : Nat)) a (A1 xs) (k + 11) (fun z hz => by
        have := hix z hz
        refine ⟨?_, by omega, by omega⟩
        show C (k + 11 + 1) 84 [.d (.int .i64 z), .cap [.list 1 (I1 (ordV xs))] 0] = _
        rw [F84.run, c85 (ord_nd xs) ((ord_mem xs z).2 hz) (by omega) (k + 10) (by omega), iB']; rfl) (nulls (vals xs)).length 0 (k + 12) (by omega) (by omega)
      rw [F74.run, c151 (k := k + 8) a xs hI (by omega) hs]
      simp only [bindR_s, resO_s, bindL_s]
      rw [I1_len]
      refine this.trans ?_
      rw [show ((nulls (vals xs)).map fun z => neg (((ordV xs).idxOf z : Nat) : Int)) = (nulls (vals xs)).map (nw (ordV xs)) from rfl, (happ (k + 1) (by omega)).1]
      exact q1
    have := l20 xs hI hs a (A1 xs) (k + 11) (by omega) xs.length 0 (k + 13) (by omega) (by omega)
    rw [F20.run, A1_len]
    refine this.trans ?_
    rw [e74]
    exact q2
  cases ib with
  | false =>
    obtain rfl := hg rfl
    refine ⟨nilR, retR false a ws, false, ws, hw, hwl, rd_nil, rd_ret _ _ _, fun k hk => ⟨?_, e20 k hk⟩⟩
    rw [F19.run, (hinst (k + 5) (by omega)).2, bB, ite'_nf]; rfl
  | true =>
    refine ⟨retR g a ws, retR g a ws, g, ws, hw, hwl, rd_ret _ _ _, rd_ret _ _ _, fun k hk => ⟨?_, e20 k hk⟩⟩
    have h1 := l19 xs hI hs a (k + 11) (by omega) xs.length 0 (k + 13) (by omega) (by omega)
    have h2 := l19b (ordV xs) (ord_nd xs) hol a (A1 xs) (k + 11) (by omega) 40 0 (k + 13) (by omega) (by omega)
    rw [F19.run, (hinst (k + 5) (by omega)).2, bB, ite'_nt]
    refine h1.trans (h2.trans ?_)
    rw [hup, (happ (k + 2) (by omega)).2]
    exact ar2_ret g a ws
end Go.Proofs.YthicohakeljdcaaGreat.Q

/-! YNh -/
namespace Go.Proofs.YthicohakeljdcaaGreat.Q
open Go Ovi
variable {k : Nat}
theorem law4n (call : CallF) (k : Nat) {a b : Ovi.Rows}  {n : Int}
    (t12 : call 12 [.agg [.d (.list 3 a), .d (.list 2 b)], .d (.int .i64 1048576)] = some [(false, [.d (.int .i64 n)])]) (hn : decide (n < 0) = true) :
    evFnK P hs call (4 : FuncId) k Tryz.f4 [.agg [.s 3 a, .s 2 b]] = bo true := by
  rw [F4.eq, t12, bindR_s, resI_s, bindI_s, ite'_t hn]
  rfl
theorem law4q (call : CallF) (k : Nat) {a b a' b' U V U' V' : Ovi.Rows}  {g : Bool} {n z2 z3 : Int} {X14 R1 R2 X17 Y17 : Res}
    (t12 : call 12 [.agg [.d (.list 3 a), .d (.list 2 b)], .d (.int .i64 1048576)] = some [(false, [.d (.int .i64 n)])]) (hn : decide (n < 0) = false)
    (t14 : call 14 [.agg [.d (.list 3 a), .d (.list 2 b)]] = some X14) (x0 : resO 133 3 1 true 2 X14 0 0 = some a) (x1 : resF 118 2 1 1 true 2 X14 0 1 = some b)
    (t13 : call 19 [.agg [.d (.list 3 a), .d (.list 2 b)]] = some R1) (t15 : call 20 [.agg [.d (.list 3 a), .d (.list 2 b)]] = some R2)
    (h1 : rd R1 U V g) (h2 : rd R2 U V g)
    (d1 : depR 0 a = true) (d2 : depR 1 b = true) (d4 : depR 0 U = true) (d5 : depR 1 V = true)
    (t16 : call 16 [.agg [.d (.list 3 U), .d (.list 2 V)], .agg [.d (.list 3 U), .d (.list 2 V)]] = some [(false, [.d (.bool true)])])
    (t16b : call 16 [.agg [.d (.list 3 a), .d (.list 2 b)], .agg [.d (.list 3 a), .d (.list 2 b)]] = some [(false, [.d (.bool true)])])
    (m17 : call 17 [.var 0 0, .d (.bool true), .d (.int .i64 1), .d (.int .i64 133), .d (.list 3 a), .d (.int .i64 118), .d (.list 2 b)] = some X17)
    (v0 : resO 133 3 3 false 1 X17 0 0 = some a') (v1 : resO 118 2 3 false 1 X17 1 0 = some b') (v2 : resI .i64 3 false 1 X17 2 0 = some z2) (hz2 : 0 ≤ z2)
    (m17b : call 17 [.var 0 0, .d (.bool true), .d (.int .i64 1), .d (.int .i64 133), .d (.list 3 U), .d (.int .i64 118), .d (.list 2 V)] = some Y17)
    (u0 : resO 133 3 3 false 1 Y17 0 0 = some U') (u1 : resO 118 2 3 false 1 Y17 1 0 = some V') (u2 : resI .i64 3 false 1 Y17 2 0 = some z3) (hz3 : 0 ≤ z3)
    (t18 : call 18 [.agg [.d (.list 3 U'), .d (.list 2 V')], .d (.int .i64 1)] = some [(false, [.d (.int .i64 z3)])]) :
    evFnK P hs call (4 : FuncId) k Tryz.f4 [.agg [.s 3 a, .s 2 b]] = bo true := by
  obtain ⟨r0, r1, r2⟩ := h1
  obtain ⟨s0, s1, s2⟩ := h2
  have n1 : decide (z2 < 0) = false := by simp only [decide_eq_false_iff_not]; omega
  have n3 : decide (z3 < 0) = false := by simp only [decide_eq_false_iff_not]; omega
  have n4 : (z3 != z3) = false := bne_self _
  have n5 : (!g == g) = false := by cases g <;> rfl
  have tt : (!true) = false := rfl
  have i0 : ∀ (x y : Option Res), ite' false x y = y := fun _ _ => rfl
  have i1 : ∀ (x y : Option Res), ite' true x y = x := fun _ _ => rfl
  rw [F4.eq, t12, bindR_s, resI_s, bindI_s, hn, i0]
  simp only [t14, bindR_s, x0, x1, bindL_s, t13, t15, r0, r1, r2, s0, s1, s2, bindB_s, d1, d2, d4, d5, i1]
  simp only [t16, t16b, bindR_s, resB_s, bindB_s, tt, i0, n5]
  rw [m17]
  simp only [bindR_s, v0, v1, v2, bindL_s, bindI_s, n1, i0, t16, resB_s, bindB_s, tt, n5, d1, d2, d4, d5, i1]
  rw [m17b]
  simp only [bindR_s, u0, u1, u2, bindL_s, bindI_s, t18, resI_s, n3, n4, i0, t16, resB_s, bindB_s, tt, n5, d4, d5, i1]
  rfl
set_option maxRecDepth 1000000 in
theorem law4 (hk : 3000000 ≤ k) {a b : Ovi.Rows}  (h1 : Fit Rl (.list 3 a)) (h2 : Fit At (.list 2 b)) : C k 4 [.agg [.s 3 a, .s 2 b]] = bo true := by
  obtain ⟨k, rfl⟩ : ∃ j, k = j + 22 := ⟨k - 22, by omega⟩
  have hs0 : C (k + 21 + 1) 4 [.agg [.s 3 a, .s 2 b]] = evFnK P hs (C (k + 21)) 4 (k + 21) Tryz.f4 [.agg [.s 3 a, .s 2 b]] := by kernel_rfl
  rw [hs0]
  have t12 := c12 (k := k + 21) (by omega) h1 h2 (left := 1048576) (by omega) (by omega)
  rcases szT_cases 1048576 (szC [.list 3 a, .list 2 b]) with ⟨q1, e1⟩ | ⟨q1, e1⟩ <;> rw [e1] at t12
  rotate_left
  · exact law4n _ _ t12 neg_t
  have p1 := q1
  simp only [szC] at p1
  have z1 : szD (.list 3 a) ≤ 1048576 := by omega
  have z2 : szD (.list 2 b) ≤ 1048576 := by omega
  have t14 := c14 (k := k + 21) (by omega) h1 h2 z1 z2
  have t16b := c16 (k := k + 21) (by omega) h1 h2 z1 z2
  obtain ⟨xs, rfl, hX⟩ := h2.atoms'
  have y2 := z2
  rw [sz_atoms] at y2
  have ya := Nat.le_trans sz_rels z1
  have hmax : (1048576 : Nat) ≤ maxLen := by decide
  obtain ⟨R1, R2, g, ws, hw, hwl, hr1, hr2, hc⟩ := rnB h1 xs (fun x hx => (hX x hx).1) (fun x hx => (hX x hx).2) (by omega) ya
  obtain ⟨t13, t15⟩ := hc (k + 7) (by omega)
  obtain ⟨U, ys, hU0, hU, hV, s1, s2, s3, s4⟩ : ∃ (U : Ovi.Rows) (ys : List Atom), outR g a ws = (U, ys) ∧ Fit Rl (.list 3 U) ∧ Fit (.list [.int .i64, .list [.int .i64]]) (.list 2 (A1 ys)) ∧ szD (.list 3 U) ≤ 1048576 ∧ szD (.list 2 (A1 ys)) ≤ 1048576 ∧ U.length ≤ 1048576 ∧ ys.length + terms ys ≤ 1048576 := by
    cases g with
    | false => exact ⟨[], [], rfl, by unfold Rl; simp [Fit], by simp [Fit, A1], by simp [szD, szR], by simp [szD, szR, A1], by simp, by simp [terms]⟩
    | true => exact ⟨a, ws, rfl, h1, atoms_fit (by omega) (fun z hz => ⟨(hw z hz).1, by have := len_terms hz; omega, (hw z hz).2⟩), z1, by rw [sz_atoms]; exact hwl, ya, hwl⟩
  rw [hU0] at hr1 hr2
  have t16 := c16 (k := k + 21) (by omega) hU hV s1 s2
  have h133 : ((133 : Nat) : Int) = 133 := rfl
  have h118 : ((118 : Nat) : Int) = 118 := rfl
  obtain ⟨a', ha'⟩ := relMark h1 1
  obtain ⟨b', hb'⟩ := factMark xs (1 + 3 * a.length)
  have m17 := e17 (k := k + 20) ha' hb' (by omega)
  rw [h133, h118] at m17
  obtain ⟨U', hU'⟩ := relMark hU 1
  obtain ⟨V', hV'⟩ := factMark ys (1 + 3 * U.length)
  have m17b := e17 (k := k + 20) hU' hV' (by omega)
  rw [h133, h118] at m17b
  have lP := (mkRows_up stepRel_up hU').2
  have lQ := (mkRows_up stepFact_up hV').2
  rw [A1_len] at lQ
  have t18 := c18 (k := k + 18) hU' hV' (by omega) (by omega) (by omega) (by omega) (fun r hr z l e => by
    obtain ⟨x, hx, rfl⟩ := List.mem_map.1 hr
    cases e
    rw [I1_len]
    have := len_terms hx
    omega) (by omega)
  exact law4q (C (k + 21)) (k + 21) t12 (neg_f (by omega)) t14 F14x0 F14x1 t13 t15 hr1 hr2 (dep_rel h1) (dep_facts xs) (dep_rel hU) (dep_facts ys) t16 t16b
    m17 rfl rfl rfl (by omega) m17b rfl rfl rfl (by omega) t18
end Go.Proofs.YthicohakeljdcaaGreat.Q

/-! YWa -/
namespace Go.Proofs
open Go.Shelf Go.RowKit Go.Lib Ovi
set_option maxHeartbeats 4000000 in
set_option maxRecDepth 1000000 in
theorem Tryz.mIntS : ListC Tryz.prog 62 1 (mkRows stepInt) := by
  intro w v xs B n k xs' k' hd hf hr hm hk hk2 hB
  rcases Fo.rows hd hf hr with ⟨rfl, A, cap, rfl⟩ | ⟨b, cap, e, g, rfl, hle, hcap, hBb, hgB, hrow⟩
  · cases hm
    go_enter Tryz.func62, Tryz.ntmps62
    go_wp2
    go_loopg [1, 5] 0 (fun g s1 s5 wr => s1 = .int .i64 k ∧ s5 = .int .i64 0 ∧ wr = w)
    case atStart => exact ⟨rfl, rfl, rfl⟩
    case round =>
      obtain ⟨rfl, rfl, rfl⟩ := hrel
      go_wp2
      go_ret
      exact ⟨rfl, Ovi.But.refl _ _, hr, _, hd, hf⟩
  · have hcap' := hcap
    unfold maxLen at hcap'
    have hl := (mkRows_up stepInt_up hm).2
    generalize hN : xs.length = N at *
    go_enter Tryz.func62, Tryz.ntmps62
    go_wp2
    go_loopg [1, 5] N (fun gk s1 s5 wr => ∃ (i : Nat) (ys : Ovi.Rows) (k1 : Int), i ≤ N ∧ N - i ≤ gk ∧ s5 = .int .i64 i ∧ s1 = .int .i64 k1 ∧ mkN stepInt i xs k = some (ys, k1) ∧ Ovi.But B w wr ∧ RowG wr NT b cap e 1 ys g)
    case atStart => exact ⟨0, xs, k, by omega, by omega, rfl, rfl, rfl, Ovi.But.refl _ _, hrow⟩
    case round =>
      obtain ⟨i, ys, k1, hi, hg, rfl, rfl, hmk, hbut0, hrow0⟩ := hrel
      by_cases hlt : i < N
      · obtain ⟨r, r', k2, hyr, hst, hmk2, b1, b2, b3, _⟩ := mkN_next stepInt_up hm hmk (by omega)
        obtain ⟨z0, rfl, rfl, rfl⟩ := stepInt_some hst
        have hx0_0 : cellD ys i 0 = some (.int .i64 z0) := by simp [cellD, hyr]
        obtain ⟨u0, hc0, hf0, _⟩ := hrow0.at hx0_0
        have hrow1 := hrow0.set (fun h => h) hx0_0 (v := .int .i64 k1) (d := .int .i64 k1) rfl (.int _ _)
        have hbut1 : Ovi.But B w ((wr).setCell ⟨b, i * 1 + 0, none⟩ (.int .i64 k1)) := hbut0.trans (Ovi.But.setCell hBb)
        simp only [Nat.mul_one, Nat.add_zero] at hc0 hf0 hrow1 hbut1
        go_wp2
        go_roundg (N - i - 1)
        case measure => omega
        case rel => exact ⟨i + 1, _, (k1 + 1), by omega, by omega, by go_num, by first | rfl | go_num, hmk2, hbut1, by rw [setD_at hyr] at hrow1; simpa using hrow1⟩
      · obtain rfl : i = N := by omega
        go_wp2
        go_ret
        rw [← hN] at hmk
        have he : some (ys, k1) = some (xs', k') := hmk.symm.trans hm
        cases he
        obtain ⟨q1, q2⟩ := hrow0.forest hcap hBb hgB
        rw [hl] at q1 q2
        exact ⟨rfl, hbut0, q1, q2⟩
set_option maxHeartbeats 4000000 in
set_option maxRecDepth 1000000 in
theorem Tryz.mFactS : ListC Tryz.prog 77 2 (mkRows stepFact) := by
  intro w v xs B n k xs' k' hd hf hr hm hk hk2 hB
  rcases Fo.rows hd hf hr with ⟨rfl, A, cap, rfl⟩ | ⟨b, cap, e, g, rfl, hle, hcap, hBb, hgB, hrow⟩
  · cases hm
    go_enter Tryz.func77, Tryz.ntmps77
    go_wp2
    go_loopg [1, 5] 0 (fun g s1 s5 wr => s1 = .int .i64 k ∧ s5 = .int .i64 0 ∧ wr = w)
    case atStart => exact ⟨rfl, rfl, rfl⟩
    case round =>
      obtain ⟨rfl, rfl, rfl⟩ := hrel
      go_wp2
      go_ret
      exact ⟨rfl, Ovi.But.refl _ _, hr, _, hd, hf⟩
  · have hcap' := hcap
    unfold maxLen at hcap'
    have hl := (mkRows_up stepFact_up hm).2
    generalize hN : xs.length = N at *
    go_enter Tryz.func77, Tryz.ntmps77
    go_wp2
    go_loopg [1, 5] N (fun gk s1 s5 wr => ∃ (i : Nat) (ys : Ovi.Rows) (k1 : Int), i ≤ N ∧ N - i ≤ gk ∧ s5 = .int .i64 i ∧ s1 = .int .i64 k1 ∧ mkN stepFact i xs k = some (ys, k1) ∧ Ovi.But B w wr ∧ RowG wr NT b cap e 2 ys g)
    case atStart => exact ⟨0, xs, k, by omega, by omega, rfl, rfl, rfl, Ovi.But.refl _ _, hrow⟩
    case round =>
      obtain ⟨i, ys, k1, hi, hg, rfl, rfl, hmk, hbut0, hrow0⟩ := hrel
      by_cases hlt : i < N
      · obtain ⟨r, r', k2, hyr, hst, hmk2, b1, b2, b3, _⟩ := mkN_next stepFact_up hm hmk (by omega)
        obtain ⟨z0, l1, l1', rfl, hl1, rfl⟩ := stepFact_some hst
        have hx0_0 : cellD ys i 0 = some (.int .i64 z0) := by simp [cellD, hyr]
        have hx1_0 : cellD ys i 1 = some (.list 1 l1) := by simp [cellD, hyr]
        have hup1 := (mkRows_up stepInt_up hl1).1
        obtain ⟨u0, hc0, hf0, _⟩ := hrow0.at hx0_0
        have hrow1 := hrow0.set (fun h => h) hx0_0 (v := .int .i64 k1) (d := .int .i64 k1) rfl (.int _ _)
        have hbut1 : Ovi.But B w ((wr).setCell ⟨b, i * 2 + 0, none⟩ (.int .i64 k1)) := hbut0.trans (Ovi.But.setCell hBb)
        have hx1_1 := setD_other (d := .int .i64 k1) hx1_0 (by decide : 1 ≠ 0)
        obtain ⟨u1, hc1, hf1, hr1, n1, hd1, ho1⟩ := hrow1.at hx1_1
        have hglt1 : ∀ j c' k, g j c' k → k < ((wr).setCell ⟨b, i * 2 + 0, none⟩ (.int .i64 k1)).heap.size := fun j c' k hk => Nat.lt_of_lt_of_le (hB k (hgB j c' k hk)) hbut1.size
        have hcall1 := Tryz.mIntS _ u1 l1 (g i 1) n1 (k1 + 1) l1' k2 hd1 ho1 hr1 hl1 (by omega) (by omega) (fun k hk => hglt1 i 1 k hk)
        simp only [Nat.mul_one, Nat.add_zero] at hc0 hf0 hrow1 hbut1 hc1 hf1 hcall1 hglt1
        go_wp2_with (
          go_at_call 62
          refine hcall1.mono ?_
          rintro ex1 w1 ⟨rfl, hbc1, hrr1, nn1, hdd1, hoo1⟩
          have hrow2 := hrow1.call (fun k hk => hk.elim) hx1_1 (by omega) hc1 hbc1 hglt1 hrr1 hdd1 hoo1
          have hbut2 := hbut1.trans (hbc1.mono fun k hk => hgB i 1 k hk))
        go_roundg (N - i - 1)
        case measure => omega
        case rel => exact ⟨i + 1, _, k2, by omega, by omega, by go_num, by first | rfl | go_num, hmk2, hbut2, by rw [setD_at hyr, setD_at (set_at hyr)] at hrow2; simpa using hrow2⟩
      · obtain rfl : i = N := by omega
        go_wp2
        go_ret
        rw [← hN] at hmk
        have he : some (ys, k1) = some (xs', k') := hmk.symm.trans hm
        cases he
        obtain ⟨q1, q2⟩ := hrow0.forest hcap hBb hgB
        rw [hl] at q1 q2
        exact ⟨rfl, hbut0, q1, q2⟩
set_option maxHeartbeats 4000000 in
set_option maxRecDepth 1000000 in
theorem Tryz.mAtomS : ListC Tryz.prog 104 2 (mkRows stepFact) := by
  intro w v xs B n k xs' k' hd hf hr hm hk hk2 hB
  rcases Fo.rows hd hf hr with ⟨rfl, A, cap, rfl⟩ | ⟨b, cap, e, g, rfl, hle, hcap, hBb, hgB, hrow⟩
  · cases hm
    go_enter Tryz.func104, Tryz.ntmps104
    go_wp2
    go_loopg [1, 5] 0 (fun g s1 s5 wr => s1 = .int .i64 k ∧ s5 = .int .i64 0 ∧ wr = w)
    case atStart => exact ⟨rfl, rfl, rfl⟩
    case round =>
      obtain ⟨rfl, rfl, rfl⟩ := hrel
      go_wp2
      go_ret
      exact ⟨rfl, Ovi.But.refl _ _, hr, _, hd, hf⟩
  · have hcap' := hcap
    unfold maxLen at hcap'
    have hl := (mkRows_up stepFact_up hm).2
    generalize hN : xs.length = N at *
    go_enter Tryz.func104, Tryz.ntmps104
    go_wp2
    go_loopg [1, 5] N (fun gk s1 s5 wr => ∃ (i : Nat) (ys : Ovi.Rows) (k1 : Int), i ≤ N ∧ N - i ≤ gk ∧ s5 = .int .i64 i ∧ s1 = .int .i64 k1 ∧ mkN stepFact i xs k = some (ys, k1) ∧ Ovi.But B w wr ∧ RowG wr NT b cap e 2 ys g)
    case atStart => exact ⟨0, xs, k, by omega, by omega, rfl, rfl, rfl, Ovi.But.refl _ _, hrow⟩
    case round =>
      obtain ⟨i, ys, k1, hi, hg, rfl, rfl, hmk, hbut0, hrow0⟩ := hrel
      by_cases hlt : i < N
      · obtain ⟨r, r', k2, hyr, hst, hmk2, b1, b2, b3, _⟩ := mkN_next stepFact_up hm hmk (by omega)
        obtain ⟨z0, l1, l1', rfl, hl1, rfl⟩ := stepFact_some hst
        have hx0_0 : cellD ys i 0 = some (.int .i64 z0) := by simp [cellD, hyr]
        have hx1_0 : cellD ys i 1 = some (.list 1 l1) := by simp [cellD, hyr]
        have hup1 := (mkRows_up stepInt_up hl1).1
        obtain ⟨u0, hc0, hf0, _⟩ := hrow0.at hx0_0
        have hrow1 := hrow0.set (fun h => h) hx0_0 (v := .int .i64 k1) (d := .int .i64 k1) rfl (.int _ _)
        have hbut1 : Ovi.But B w ((wr).setCell ⟨b, i * 2 + 0, none⟩ (.int .i64 k1)) := hbut0.trans (Ovi.But.setCell hBb)
        have hx1_1 := setD_other (d := .int .i64 k1) hx1_0 (by decide : 1 ≠ 0)
        obtain ⟨u1, hc1, hf1, hr1, n1, hd1, ho1⟩ := hrow1.at hx1_1
        have hglt1 : ∀ j c' k, g j c' k → k < ((wr).setCell ⟨b, i * 2 + 0, none⟩ (.int .i64 k1)).heap.size := fun j c' k hk => Nat.lt_of_lt_of_le (hB k (hgB j c' k hk)) hbut1.size
        have hcall1 := Tryz.mIntS _ u1 l1 (g i 1) n1 (k1 + 1) l1' k2 hd1 ho1 hr1 hl1 (by omega) (by omega) (fun k hk => hglt1 i 1 k hk)
        simp only [Nat.mul_one, Nat.add_zero] at hc0 hf0 hrow1 hbut1 hc1 hf1 hcall1 hglt1
        go_wp2_with (
          go_at_call 62
          refine hcall1.mono ?_
          rintro ex1 w1 ⟨rfl, hbc1, hrr1, nn1, hdd1, hoo1⟩
          have hrow2 := hrow1.call (fun k hk => hk.elim) hx1_1 (by omega) hc1 hbc1 hglt1 hrr1 hdd1 hoo1
          have hbut2 := hbut1.trans (hbc1.mono fun k hk => hgB i 1 k hk))
        go_roundg (N - i - 1)
        case measure => omega
        case rel => exact ⟨i + 1, _, k2, by omega, by omega, by go_num, by first | rfl | go_num, hmk2, hbut2, by rw [setD_at hyr, setD_at (set_at hyr)] at hrow2; simpa using hrow2⟩
      · obtain rfl : i = N := by omega
        go_wp2
        go_ret
        rw [← hN] at hmk
        have he : some (ys, k1) = some (xs', k') := hmk.symm.trans hm
        cases he
        obtain ⟨q1, q2⟩ := hrow0.forest hcap hBb hgB
        rw [hl] at q1 q2
        exact ⟨rfl, hbut0, q1, q2⟩
set_option maxHeartbeats 4000000 in
set_option maxRecDepth 1000000 in
theorem Tryz.mRelationS {mt : Int → List UInt8} (ht : ∀ (w : World) (k : Int), 0 ≤ k → k ≤ 4611686018427387904 → Calls Tryz.prog 103 #[.int .i64 k] w fun e w' => e = .returned (.string ⟨(mt k).toArray⟩) ∧ Below w.heap.size w w') : ListC Tryz.prog 29 3 (mkRows (stepRel mt)) := by
  intro w v xs B n k xs' k' hd hf hr hm hk hk2 hB
  rcases Fo.rows hd hf hr with ⟨rfl, A, cap, rfl⟩ | ⟨b, cap, e, g, rfl, hle, hcap, hBb, hgB, hrow⟩
  · cases hm
    go_enter Tryz.func29, Tryz.ntmps29
    go_wp2
    go_loopg [1, 5] 0 (fun g s1 s5 wr => s1 = .int .i64 k ∧ s5 = .int .i64 0 ∧ wr = w)
    case atStart => exact ⟨rfl, rfl, rfl⟩
    case round =>
      obtain ⟨rfl, rfl, rfl⟩ := hrel
      go_wp2
      go_ret
      exact ⟨rfl, Ovi.But.refl _ _, hr, _, hd, hf⟩
  · have hcap' := hcap
    unfold maxLen at hcap'
    have hl := (mkRows_up stepRel_up hm).2
    generalize hN : xs.length = N at *
    go_enter Tryz.func29, Tryz.ntmps29
    go_wp2
    go_loopg [1, 5] N (fun gk s1 s5 wr => ∃ (i : Nat) (ys : Ovi.Rows) (k1 : Int), i ≤ N ∧ N - i ≤ gk ∧ s5 = .int .i64 i ∧ s1 = .int .i64 k1 ∧ mkN (stepRel mt) i xs k = some (ys, k1) ∧ Ovi.But B w wr ∧ RowG wr NT b cap e 3 ys g)
    case atStart => exact ⟨0, xs, k, by omega, by omega, rfl, rfl, rfl, Ovi.But.refl _ _, hrow⟩
    case round =>
      obtain ⟨i, ys, k1, hi, hg, rfl, rfl, hmk, hbut0, hrow0⟩ := hrel
      by_cases hlt : i < N
      · obtain ⟨r, r', k2, hyr, hst, hmk2, b1, b2, b3, _⟩ := mkN_next stepRel_up hm hmk (by omega)
        obtain ⟨s0, z1, t2, rfl, rfl, rfl⟩ := stepRel_some hst
        have hx0_0 : cellD ys i 0 = some (.str s0) := by simp [cellD, hyr]
        have hx1_0 : cellD ys i 1 = some (.int .i64 z1) := by simp [cellD, hyr]
        have hx2_0 : cellD ys i 2 = some (.bool t2) := by simp [cellD, hyr]
        have ht0 := ht (wr) k1 (by omega) (by omega)
        go_wp2_with (
          go_at_call 103
          refine ht0.mono ?_
          rintro ex0 w0 ⟨rfl, hbel0⟩
          have hbut1 := hbut0.trans (Ovi.But.of_below hbel0)
          have hrow1 := hrow0.world (w' := w0) (fun k hk => hk.elim) (hbel0.block _ hrow0.lt) (fun j c' k hk => hbel0.block _ (Nat.lt_of_lt_of_le (hB k (hgB j c' k hk)) hbut0.size))
          obtain ⟨u0, hc0, hf0, _⟩ := hrow1.at hx0_0
          have hrow2 := hrow1.set (fun h => h) hx0_0 (v := .string ⟨(mt k1).toArray⟩) (d := .str (mt k1)) rfl (by have := RD.str (w := w0) (S := NT) (T := NT) ⟨(mt k1).toArray⟩; simpa using this)
          have hbut2 : Ovi.But B w ((w0).setCell ⟨b, i * 3 + 0, none⟩ (.string ⟨(mt k1).toArray⟩)) := hbut1.trans (Ovi.But.setCell hBb)
          have hx1_1 := setD_other (d := .str (mt k1)) hx1_0 (by decide : 1 ≠ 0)
          have hx2_1 := setD_other (d := .str (mt k1)) hx2_0 (by decide : 2 ≠ 0)
          obtain ⟨u1, hc1, hf1, _⟩ := hrow2.at hx1_1
          have hrow3 := hrow2.set (fun h => h) hx1_1 (v := .int .i64 (k1 + 1)) (d := .int .i64 (k1 + 1)) rfl (.int _ _)
          have hbut3 : Ovi.But B w (((w0).setCell ⟨b, i * 3 + 0, none⟩ (.string ⟨(mt k1).toArray⟩)).setCell ⟨b, i * 3 + 1, none⟩ (.int .i64 (k1 + 1))) := hbut2.trans (Ovi.But.setCell hBb)
          have hx2_2 := setD_other (d := .int .i64 (k1 + 1)) hx2_1 (by decide : 2 ≠ 1)
          obtain ⟨u2, hc2, hf2, _⟩ := hrow3.at hx2_2
          have hrow4 := hrow3.set (fun h => h) hx2_2 (v := .bool ((k1 + 1 + 1) % 3 == 0)) (d := .bool ((k1 + 1 + 1) % 3 == 0)) rfl (.bool _)
          have hbut4 : Ovi.But B w ((((w0).setCell ⟨b, i * 3 + 0, none⟩ (.string ⟨(mt k1).toArray⟩)).setCell ⟨b, i * 3 + 1, none⟩ (.int .i64 (k1 + 1))).setCell ⟨b, i * 3 + 2, none⟩ (.bool ((k1 + 1 + 1) % 3 == 0))) := hbut3.trans (Ovi.But.setCell hBb)
          simp only [Nat.mul_one, Nat.add_zero] at hc0 hf0 hrow2 hbut2 hc1 hf1 hrow3 hbut3 hc2 hf2 hrow4 hbut4)
        go_roundg (N - i - 1)
        case measure => omega
        case rel => exact ⟨i + 1, _, (k1 + 1 + 1 + 1), by omega, by omega, by go_num, by first | rfl | go_num, hmk2, hbut4, by rw [setD_at hyr, setD_at (set_at hyr), setD_at (set_at (set_at hyr))] at hrow4; simpa using hrow4⟩
      · obtain rfl : i = N := by omega
        go_wp2
        go_ret
        rw [← hN] at hmk
        have he : some (ys, k1) = some (xs', k') := hmk.symm.trans hm
        cases he
        obtain ⟨q1, q2⟩ := hrow0.forest hcap hBb hgB
        rw [hl] at q1 q2
        exact ⟨rfl, hbut0, q1, q2⟩
set_option maxHeartbeats 4000000 in
set_option maxRecDepth 1000000 in
theorem Tryz.mInstance {mt : Int → List UInt8} (ht : ∀ (w : World) (k : Int), 0 ≤ k → k ≤ 4611686018427387904 → Calls Tryz.prog 103 #[.int .i64 k] w fun e w' => e = .returned (.string ⟨(mt k).toArray⟩) ∧ Below w.heap.size w w') : AggC Tryz.prog 17 (stepInst mt) := by
  intro w us ds G k ds' k' hsz hcells hdis hlt hm hk hk2
  obtain ⟨x0, x1, y0, k1, y1, rfl, h1, h2, rfl⟩ := stepInst_some hm
  have up1 := (mkRows_up stepRel_up h1).1
  have up2 := (mkRows_up stepFact_up h2).1
  obtain ⟨u0, hu0, c0⟩ := hcells 0 _ rfl
  obtain ⟨u1, hu1, c1⟩ := hcells 1 _ rfl
  have hus : us = #[u0, u1] := by
    apply Array.ext_getElem?
    intro i
    match i with
    | 0 => exact hu0
    | 1 => exact hu1
    | i + 2 => rw [Array.getElem?_eq_none (by rw [hsz]; simp), Array.getElem?_eq_none (by simp)]
  subst hus
  have hb0 : Ovi.But (fun _ => False) w (w.alloc (.cells #[u0, u1] 30 (0, 0))) := Ovi.But.of_below ((Below.refl _ w).alloc (Nat.le_refl _) _)
  have hnew : ∀ c k, G c k → k ≠ w.heap.size := fun c k hk he => by have := hlt c k hk; omega
  have c0 : CellF (w.alloc (.cells #[u0, u1] 30 (0, 0))) (G 0) u0 _ := CellF.but c0 hb0 (hlt 0) (fun _ _ h => h)
  have c1 : CellF (w.alloc (.cells #[u0, u1] 30 (0, 0))) (G 1) u1 _ := CellF.but c1 hb0 (hlt 1) (fun _ _ h => h)
  have hlt1 : ∀ c b, G c b → b < (w.alloc (.cells #[u0, u1] 30 (0, 0))).heap.size := fun c b hb => Nat.lt_of_lt_of_le (hlt c b hb) hb0.size
  have l0 : (w.alloc (.cells #[u0, u1] 30 (0, 0))).cell? ⟨w.heap.size, 0, none⟩ = some u0 := alloc_cell w _ _ rfl
  have l1 : (w.alloc (.cells #[u0, u1] 30 (0, 0))).cell? ⟨w.heap.size, 1, none⟩ = some u1 := alloc_cell w _ _ rfl
  obtain ⟨r0, n0, d0, f0⟩ := c0
  have hcall0 := Tryz.mRelationS ht _ u0 x0 (G 0) n0 k y0 k1 d0 f0 r0 h1 hk (by omega) (hlt1 0)
  clear ht
  go_enter Tryz.func17, Tryz.ntmps17
  go_wp2_with (
    go_at_call 29
    refine hcall0.mono ?_
    rintro e1 w1 ⟨rfl, b1, r1, n1, d1, f1⟩
    have l1' := b1.cell (fun h => hnew _ _ h rfl) l1
    have c1' := c1.but b1 (hlt1 1) (fun k h h' => absurd (hdis _ _ _ h h') (by decide))
    obtain ⟨r2, n2, d2, f2⟩ := c1'
    have hlt2 : ∀ c b, G c b → b < w1.heap.size := fun c b hb => Nat.lt_of_lt_of_le (hlt1 c b hb) b1.size
    have hcall1 := Tryz.mFactS _ u1 x1 (G 1) n2 k1 y1 k' d2 f2 r2 h2 (by omega) hk2 (hlt2 1))
  refine hcall1.mono ?_
  rintro e2 w2 ⟨rfl, b2, r3, n3, d3, f3⟩
  go_wp2
  go_ret
  have c0'' := CellF.but (B := G 0) ⟨r1, n1, d1, f1⟩ b2 (hlt2 0) (fun k h h' => absurd (hdis _ _ _ h h') (by decide))
  refine ⟨rfl, ((hb0.mono fun _ h => h.elim).trans (b1.mono fun k h => ⟨0, h⟩)).trans (b2.mono fun k h => ⟨1, h⟩), fun c x hx => ?_⟩
  match c, hx with
  | 0, hx => cases hx; exact ⟨u0, rfl, c0''⟩
  | 1, hx => cases hx; exact ⟨u1, rfl, r3, n3, d3, f3⟩
  | c + 2, hx => simp at hx
set_option maxHeartbeats 4000000 in
set_option maxRecDepth 1000000 in
theorem Tryz.mQuery : AggC Tryz.prog 30 stepQuery := by
  intro w us ds G k ds' k' hsz hcells hdis hlt hm hk hk2
  obtain ⟨x0, x1, y0, k1, y1, rfl, h1, h2, rfl⟩ := stepQuery_some hm
  have up1 := (mkRows_up stepInt_up h1).1
  have up2 := (mkRows_up stepFact_up h2).1
  obtain ⟨u0, hu0, c0⟩ := hcells 0 _ rfl
  obtain ⟨u1, hu1, c1⟩ := hcells 1 _ rfl
  have hus : us = #[u0, u1] := by
    apply Array.ext_getElem?
    intro i
    match i with
    | 0 => exact hu0
    | 1 => exact hu1
    | i + 2 => rw [Array.getElem?_eq_none (by rw [hsz]; simp), Array.getElem?_eq_none (by simp)]
  subst hus
  have hb0 : Ovi.But (fun _ => False) w (w.alloc (.cells #[u0, u1] 49 (0, 0))) := Ovi.But.of_below ((Below.refl _ w).alloc (Nat.le_refl _) _)
  have hnew : ∀ c k, G c k → k ≠ w.heap.size := fun c k hk he => by have := hlt c k hk; omega
  have c0 : CellF (w.alloc (.cells #[u0, u1] 49 (0, 0))) (G 0) u0 _ := CellF.but c0 hb0 (hlt 0) (fun _ _ h => h)
  have c1 : CellF (w.alloc (.cells #[u0, u1] 49 (0, 0))) (G 1) u1 _ := CellF.but c1 hb0 (hlt 1) (fun _ _ h => h)
  have hlt1 : ∀ c b, G c b → b < (w.alloc (.cells #[u0, u1] 49 (0, 0))).heap.size := fun c b hb => Nat.lt_of_lt_of_le (hlt c b hb) hb0.size
  have l0 : (w.alloc (.cells #[u0, u1] 49 (0, 0))).cell? ⟨w.heap.size, 0, none⟩ = some u0 := alloc_cell w _ _ rfl
  have l1 : (w.alloc (.cells #[u0, u1] 49 (0, 0))).cell? ⟨w.heap.size, 1, none⟩ = some u1 := alloc_cell w _ _ rfl
  obtain ⟨r0, n0, d0, f0⟩ := c0
  have hcall0 := Tryz.mIntS _ u0 x0 (G 0) n0 k y0 k1 d0 f0 r0 h1 hk (by omega) (hlt1 0)
  go_enter Tryz.func30, Tryz.ntmps30
  go_wp2_with (
    go_at_call 62
    refine hcall0.mono ?_
    rintro e1 w1 ⟨rfl, b1, r1, n1, d1, f1⟩
    have l1' := b1.cell (fun h => hnew _ _ h rfl) l1
    have c1' := c1.but b1 (hlt1 1) (fun k h h' => absurd (hdis _ _ _ h h') (by decide))
    obtain ⟨r2, n2, d2, f2⟩ := c1'
    have hlt2 : ∀ c b, G c b → b < w1.heap.size := fun c b hb => Nat.lt_of_lt_of_le (hlt1 c b hb) b1.size
    have hcall1 := Tryz.mAtomS _ u1 x1 (G 1) n2 k1 y1 k' d2 f2 r2 h2 (by omega) hk2 (hlt2 1))
  refine hcall1.mono ?_
  rintro e2 w2 ⟨rfl, b2, r3, n3, d3, f3⟩
  go_wp2
  go_ret
  have c0'' := CellF.but (B := G 0) ⟨r1, n1, d1, f1⟩ b2 (hlt2 0) (fun k h h' => absurd (hdis _ _ _ h h') (by decide))
  refine ⟨rfl, ((hb0.mono fun _ h => h.elim).trans (b1.mono fun k h => ⟨0, h⟩)).trans (b2.mono fun k h => ⟨1, h⟩), fun c x hx => ?_⟩
  match c, hx with
  | 0, hx => cases hx; exact ⟨u0, rfl, c0''⟩
  | 1, hx => cases hx; exact ⟨u1, rfl, r3, n3, d3, f3⟩
  | c + 2, hx => simp at hx
end Go.Proofs

/-! Ixs -/
namespace Ovi
open Go Go.Proofs Go.RowKit Go.Sort Go.Lib
/-! ### A row as the numbers of its elements: what a walk that knows nothing of the elements leaves are elements of the row, or zero -/
section
variable {α β : Type} [Inhabited α] [Inhabited β]
def ixs (d : Array α) : Array (Option (Fin d.size)) := Array.ofFn fun i => some i
omit [Inhabited α] in
theorem ixs_size (d : Array α) : (ixs d).size = d.size := by simp [ixs]
def decX (z : α) (d : Array α) : Option (Fin d.size) → α
  | none => z
  | some i => d[i]
omit [Inhabited α] in
theorem ixs_dec (z : α) (d : Array α) : (ixs d).map (decX z d) = d := by
  apply Array.ext
  · simp [ixs]
  · intro i h1 h2
    simp [ixs, decX]
theorem flatK_dec (enc : α → List Value) (g : β → α) (k : Nat) (dk : Array β) : flatK (fun x => enc (g x)) k dk = flatK enc k (dk.map g) := by
  unfold flatK
  rw [Array.size_map]
  apply Array.map_congr_left
  intro t ht
  have ht : t < dk.size * k := by simpa using ht
  have hk : 0 < k := by
    rcases Nat.eq_zero_or_pos k with h | h
    · subst h; simp at ht
    · exact h
  have h1 : t / k < dk.size := Nat.div_lt_of_lt_mul (by rwa [Nat.mul_comm])
  rw [getElem!_pos dk _ h1, getElem!_pos (dk.map g) _ (by simpa using h1), Array.getElem_map]
theorem sortWorldK_dec (enc : α → List Value) (g : β → α) (k : Nat) (w : World) (b n : Nat) (dk : Array β) (os : Array Obj) : sortWorldK (fun x => enc (g x)) k w b 0 n dk os = sortWorldK enc k w b 0 n (dk.map g) os := by
  unfold sortWorldK putRowK
  rw [flatK_dec]
theorem putCells_dec (enc : α → Value) (g : β → α) (o : Nat) (dk : Array β) (c : Array Value) : putCells (fun x => enc (g x)) o dk c = putCells enc o (dk.map g) c := by
  unfold putCells
  congr 1
  funext k x
  rw [Array.size_map]
  by_cases h : o ≤ k ∧ k < o + dk.size
  · rw [if_pos h, if_pos h, getElem!_pos dk _ (by omega), getElem!_pos (dk.map g) _ (by simp; omega), Array.getElem_map]
  · rw [if_neg h, if_neg h]
theorem putRow_dec (enc : α → Value) (g : β → α) (w : World) (b o : Nat) (dk : Array β) : putRow (fun x => enc (g x)) w b o dk = putRow enc w b o (dk.map g) := by
  unfold putRow
  congr 1
  funext c
  exact putCells_dec enc g o dk c
theorem holds_dec (enc : α → Value) (g : β → α) (w : World) (b o : Nat) (dk : Array β) (h : Holds enc w b o (dk.map g)) : Holds (fun x => enc (g x)) w b o dk := by
  intro j hj
  have := h j (by simpa using hj)
  rw [getElem!_pos (dk.map g) _ (by simpa using hj), Array.getElem_map] at this
  rw [getElem!_pos dk _ hj]
  exact this
omit [Inhabited α] in
theorem dec_mem (z : α) (d : Array α) (dk : Array (Option (Fin d.size))) : ∀ h ∈ (dk.map (decX z d)).toList, h ∈ d.toList ∨ h = z := by
  intro h hh
  rw [Array.toList_map, List.mem_map] at hh
  obtain ⟨x, _, rfl⟩ := hh
  cases x with
  | none => exact .inr rfl
  | some i => exact .inl (by simp [decX])
omit [Inhabited α] in
theorem dec_take {γ : Type} (z : α) (d : Array α) (dk : Array (Option (Fin d.size))) (kk : Nat) (lst : α → γ) : (dk.toList.take kk).map (fun x => lst (decX z d x)) = ((dk.map (decX z d)).toList.take kk).map lst := by
  rw [Array.toList_map, ← List.map_take, List.map_map]
  rfl
omit [Inhabited α] in
theorem dec_all {γ : Type} (z : α) (d : Array α) (lst : α → γ) : (ixs d).toList.map (fun x => lst (decX z d x)) = d.toList.map lst := by
  have := congrArg Array.toList (ixs_dec z d)
  rw [Array.toList_map] at this
  conv => rhs; rw [← this, List.map_map]
  rfl
end
end Ovi

/-! YSh -/
namespace Go.Proofs
open Go.Shelf
def Tryz.lays189_ren : Go.Shelf.Ren := ⟨fun | 189 => 215 | 125 => 223 | 257 => 253 | 128 => 264 | 129 => 265 | 294 => 276 | 295 => 277 | 296 => 278 | 297 => 279 | 298 => 280 | 299 => 281 | 216 => 282 | 300 => 283 | 301 => 284 | 328 => 300 | 329 => 286 | 330 => 287 | 331 => 301 | 332 => 302 | 215 => 266 | 343 => 309 | n => n, fun | 28 => 39 | 3 => 3 | 46 => 236 | 0 => 0 | 51 => 265 | 53 => 267 | 4 => 4 | 183 => 259 | 182 => 258 | 131 => 119 | 5 => 5 | 9 => 9 | 218 => 279 | 222 => 283 | 228 => 295 | 229 => 296 | n => n, fun | n => n⟩
theorem Tryz.lays189 : Go.Proofs.Lays.n189 Tryz.prog Tryz.lays189_ren := {
  mixed := by kernel_rfl
  f125 := Tryz.func223.trans (congrArg some (by kernel_rfl))
  f128 := Tryz.func264.trans (congrArg some (by kernel_rfl))
  f129 := Tryz.func265.trans (congrArg some (by kernel_rfl))
  f189 := Tryz.func215.trans (congrArg some (by kernel_rfl))
  f215 := Tryz.func266.trans (congrArg some (by kernel_rfl))
  f216 := Tryz.func282.trans (congrArg some (by kernel_rfl))
  f257 := Tryz.func253.trans (congrArg some (by kernel_rfl))
  f294 := Tryz.func276.trans (congrArg some (by kernel_rfl))
  f295 := Tryz.func277.trans (congrArg some (by kernel_rfl))
  f296 := Tryz.func278.trans (congrArg some (by kernel_rfl))
  f297 := Tryz.func279.trans (congrArg some (by kernel_rfl))
  f298 := Tryz.func280.trans (congrArg some (by kernel_rfl))
  f299 := Tryz.func281.trans (congrArg some (by kernel_rfl))
  f300 := Tryz.func283.trans (congrArg some (by kernel_rfl))
  f301 := Tryz.func284.trans (congrArg some (by kernel_rfl))
  f328 := Tryz.func300.trans (congrArg some (by kernel_rfl))
  f329 := Tryz.func286.trans (congrArg some (by kernel_rfl))
  f330 := Tryz.func287.trans (congrArg some (by kernel_rfl))
  f331 := Tryz.func301.trans (congrArg some (by kernel_rfl))
  f332 := Tryz.func302.trans (congrArg some (by kernel_rfl))
  f343 := Tryz.func309.trans (congrArg some (by kernel_rfl))
  t0 := Tryz.underlying0
  a0 := Tryz.isAgg0
  z0 := Tryz.sizeOf0
  v0 := Tryz.zeroValue0
  t3 := Tryz.underlying3
  a3 := Tryz.isAgg3
  z3 := Tryz.sizeOf3
  v3 := Tryz.zeroValue3
  t4 := Tryz.underlying4
  a4 := Tryz.isAgg4
  z4 := Tryz.sizeOf4
  v4 := Tryz.zeroValue4
  t5 := Tryz.underlying5
  a5 := Tryz.isAgg5
  z5 := Tryz.sizeOf5
  v5 := Tryz.zeroValue5
  t9 := Tryz.underlying9
  a9 := Tryz.isAgg9
  z9 := Tryz.sizeOf9
  v9 := Tryz.zeroValue9
  t28 := Tryz.underlying39
  a28 := Tryz.isAgg39
  z28 := Tryz.sizeOf39
  v28 := Tryz.zeroValue39
  t46 := Tryz.underlying236
  a46 := Tryz.isAgg236
  z46 := Tryz.sizeOf236
  v46 := Tryz.zeroValue236
  t51 := Tryz.underlying265
  a51 := Tryz.isAgg265
  z51 := Tryz.sizeOf265
  v51 := Tryz.zeroValue265
  t53 := Tryz.underlying267
  a53 := Tryz.isAgg267
  z53 := Tryz.sizeOf267
  v53 := Tryz.zeroValue267
  t131 := Tryz.underlying119
  a131 := Tryz.isAgg119
  z131 := Tryz.sizeOf119
  v131 := Tryz.zeroValue119
  t182 := Tryz.underlying258
  a182 := Tryz.isAgg258
  z182 := Tryz.sizeOf258
  v182 := Tryz.zeroValue258
  t183 := Tryz.underlying259
  a183 := Tryz.isAgg259
  z183 := Tryz.sizeOf259
  v183 := Tryz.zeroValue259
  t218 := Tryz.underlying279
  a218 := Tryz.isAgg279
  z218 := Tryz.sizeOf279
  v218 := Tryz.zeroValue279
  t222 := Tryz.underlying283
  a222 := Tryz.isAgg283
  z222 := Tryz.sizeOf283
  v222 := Tryz.zeroValue283
  t228 := Tryz.underlying295
  a228 := Tryz.isAgg295
  z228 := Tryz.sizeOf295
  v228 := Tryz.zeroValue295
  t229 := Tryz.underlying296
  a229 := Tryz.isAgg296
  z229 := Tryz.sizeOf296
  v229 := Tryz.zeroValue296 }
def Tryz.lays122_ren : Go.Shelf.Ren := ⟨fun | 122 => 225 | 215 => 266 | n => n, fun | 3 => 3 | 4 => 4 | n => n, fun | n => n⟩
theorem Tryz.lays122 : Go.Proofs.Lays.n122 Tryz.prog Tryz.lays122_ren := {
  mixed := by kernel_rfl
  f122 := Tryz.func225.trans (congrArg some (by kernel_rfl))
  f215 := Tryz.func266.trans (congrArg some (by kernel_rfl))
  t3 := Tryz.underlying3
  a3 := Tryz.isAgg3
  z3 := Tryz.sizeOf3
  v3 := Tryz.zeroValue3
  t4 := Tryz.underlying4
  a4 := Tryz.isAgg4
  z4 := Tryz.sizeOf4
  v4 := Tryz.zeroValue4 }
def Tryz.laysNm215_ren : Go.Shelf.Ren := ⟨fun | 15 => 192 | n => n, fun | 22 => 39 | 3 => 3 | 4 => 4 | n => n, fun | n => n⟩
theorem Tryz.laysNm215 : Go.Proofs.Lays2.n15 Tryz.prog Tryz.laysNm215_ren := {
  mixed := by kernel_rfl
  f15 := Tryz.func192.trans (congrArg some (by kernel_rfl))
  t3 := Tryz.underlying3
  a3 := Tryz.isAgg3
  z3 := Tryz.sizeOf3
  v3 := Tryz.zeroValue3
  t4 := Tryz.underlying4
  a4 := Tryz.isAgg4
  z4 := Tryz.sizeOf4
  v4 := Tryz.zeroValue4
  t22 := Tryz.underlying39
  a22 := Tryz.isAgg39
  z22 := Tryz.sizeOf39
  v22 := Tryz.zeroValue39
  i3 := by kernel_rfl }
def Tryz.laysNm220_ren : Go.Shelf.Ren := ⟨fun | 20 => 216 | n => n, fun | 22 => 39 | 3 => 3 | 4 => 4 | 0 => 0 | n => n, fun | n => n⟩
theorem Tryz.laysNm220 : Go.Proofs.Lays2.n20 Tryz.prog Tryz.laysNm220_ren := {
  mixed := by kernel_rfl
  f20 := Tryz.func216.trans (congrArg some (by kernel_rfl))
  t0 := Tryz.underlying0
  a0 := Tryz.isAgg0
  z0 := Tryz.sizeOf0
  v0 := Tryz.zeroValue0
  t3 := Tryz.underlying3
  a3 := Tryz.isAgg3
  z3 := Tryz.sizeOf3
  v3 := Tryz.zeroValue3
  t4 := Tryz.underlying4
  a4 := Tryz.isAgg4
  z4 := Tryz.sizeOf4
  v4 := Tryz.zeroValue4
  t22 := Tryz.underlying39
  a22 := Tryz.isAgg39
  z22 := Tryz.sizeOf39
  v22 := Tryz.zeroValue39
  i3 := by kernel_rfl }
def Tryz.laysSlE041_f166_ren : Go.Shelf.Ren := ⟨fun | 41 => 166 | n => n, fun | 22 => 27 | 23 => 133 | 4 => 4 | n => n, fun | n => n⟩
theorem Tryz.laysSlE041_f166 : Go.Proofs.SlLaysE0.n41 Tryz.prog Tryz.laysSlE041_f166_ren := {
  mixed := by kernel_rfl
  f41 := ⟨Tryz.f166.name, by decide, Tryz.func166.trans (congrArg some (by kernel_rfl))⟩
  t4 := Tryz.underlying4
  a4 := Tryz.isAgg4
  z4 := Tryz.sizeOf4
  v4 := Tryz.zeroValue4
  t22 := Tryz.underlying27
  a22 := Tryz.isAgg27
  z22 := Tryz.sizeOf27
  v22 := Tryz.zeroValue27 }
def Tryz.laysSlF06_f168_ren : Go.Shelf.Ren := ⟨fun | 6 => 168 | 15 => 223 | 14 => 222 | 28 => 264 | 29 => 265 | 20 => 256 | 21 => 257 | 22 => 258 | 23 => 259 | 24 => 260 | 25 => 261 | 26 => 262 | 27 => 263 | 46 => 285 | 47 => 286 | 48 => 287 | 49 => 288 | 50 => 289 | 57 => 303 | n => n, fun | 22 => 28 | 24 => 118 | 25 => 179 | 3 => 3 | 39 => 236 | 0 => 0 | 53 => 265 | 55 => 267 | 4 => 4 | 46 => 259 | 45 => 258 | 50 => 119 | 5 => 5 | 9 => 9 | 66 => 279 | 70 => 283 | 76 => 295 | 77 => 296 | n => n, fun | n => n⟩
theorem Tryz.laysSlF06_f168 : Go.Proofs.SlLaysF0.n6 Tryz.prog Tryz.laysSlF06_f168_ren := {
  mixed := by kernel_rfl
  f6 := ⟨Tryz.f168.name, by decide, Tryz.func168.trans (congrArg some (by kernel_rfl))⟩
  f14 := ⟨Tryz.f222.name, by decide, Tryz.func222.trans (congrArg some (by kernel_rfl))⟩
  f15 := Tryz.func223.trans (congrArg some (by kernel_rfl))
  f20 := ⟨Tryz.f256.name, by decide, Tryz.func256.trans (congrArg some (by kernel_rfl))⟩
  f21 := ⟨Tryz.f257.name, by decide, Tryz.func257.trans (congrArg some (by kernel_rfl))⟩
  f22 := ⟨Tryz.f258.name, by decide, Tryz.func258.trans (congrArg some (by kernel_rfl))⟩
  f23 := ⟨Tryz.f259.name, by decide, Tryz.func259.trans (congrArg some (by kernel_rfl))⟩
  f24 := ⟨Tryz.f260.name, by decide, Tryz.func260.trans (congrArg some (by kernel_rfl))⟩
  f25 := ⟨Tryz.f261.name, by decide, Tryz.func261.trans (congrArg some (by kernel_rfl))⟩
  f26 := ⟨Tryz.f262.name, by decide, Tryz.func262.trans (congrArg some (by kernel_rfl))⟩
  f27 := ⟨Tryz.f263.name, by decide, Tryz.func263.trans (congrArg some (by kernel_rfl))⟩
  f28 := Tryz.func264.trans (congrArg some (by kernel_rfl))
  f29 := Tryz.func265.trans (congrArg some (by kernel_rfl))
  f46 := ⟨Tryz.f285.name, by decide, Tryz.func285.trans (congrArg some (by kernel_rfl))⟩
  f47 := Tryz.func286.trans (congrArg some (by kernel_rfl))
  f48 := Tryz.func287.trans (congrArg some (by kernel_rfl))
  f49 := ⟨Tryz.f288.name, by decide, Tryz.func288.trans (congrArg some (by kernel_rfl))⟩
  f50 := ⟨Tryz.f289.name, by decide, Tryz.func289.trans (congrArg some (by kernel_rfl))⟩
  f57 := ⟨Tryz.f303.name, by decide, Tryz.func303.trans (congrArg some (by kernel_rfl))⟩
  t0 := Tryz.underlying0
  a0 := Tryz.isAgg0
  z0 := Tryz.sizeOf0
  v0 := Tryz.zeroValue0
  t3 := Tryz.underlying3
  a3 := Tryz.isAgg3
  z3 := Tryz.sizeOf3
  v3 := Tryz.zeroValue3
  t4 := Tryz.underlying4
  a4 := Tryz.isAgg4
  z4 := Tryz.sizeOf4
  v4 := Tryz.zeroValue4
  t5 := Tryz.underlying5
  a5 := Tryz.isAgg5
  z5 := Tryz.sizeOf5
  v5 := Tryz.zeroValue5
  t9 := Tryz.underlying9
  a9 := Tryz.isAgg9
  z9 := Tryz.sizeOf9
  v9 := Tryz.zeroValue9
  t22 := Tryz.underlying28
  a22 := Tryz.isAgg28
  z22 := Tryz.sizeOf28
  v22 := Tryz.zeroValue28
  t25 := Tryz.underlying179
  a25 := Tryz.isAgg179
  z25 := Tryz.sizeOf179
  v25 := Tryz.zeroValue179
  t39 := Tryz.underlying236
  a39 := Tryz.isAgg236
  z39 := Tryz.sizeOf236
  v39 := Tryz.zeroValue236
  t45 := Tryz.underlying258
  a45 := Tryz.isAgg258
  z45 := Tryz.sizeOf258
  v45 := Tryz.zeroValue258
  t46 := Tryz.underlying259
  a46 := Tryz.isAgg259
  z46 := Tryz.sizeOf259
  v46 := Tryz.zeroValue259
  t50 := Tryz.underlying119
  a50 := Tryz.isAgg119
  z50 := Tryz.sizeOf119
  v50 := Tryz.zeroValue119
  t53 := Tryz.underlying265
  a53 := Tryz.isAgg265
  z53 := Tryz.sizeOf265
  v53 := Tryz.zeroValue265
  t55 := Tryz.underlying267
  a55 := Tryz.isAgg267
  z55 := Tryz.sizeOf267
  v55 := Tryz.zeroValue267
  t66 := Tryz.underlying279
  a66 := Tryz.isAgg279
  z66 := Tryz.sizeOf279
  v66 := Tryz.zeroValue279
  t70 := Tryz.underlying283
  a70 := Tryz.isAgg283
  z70 := Tryz.sizeOf283
  v70 := Tryz.zeroValue283
  t76 := Tryz.underlying295
  a76 := Tryz.isAgg295
  z76 := Tryz.sizeOf295
  v76 := Tryz.zeroValue295
  t77 := Tryz.underlying296
  a77 := Tryz.isAgg296
  z77 := Tryz.sizeOf296
  v77 := Tryz.zeroValue296 }
end Go.Proofs

/-! YCm -/
namespace Go.Proofs
open Go.Shelf Go.RowKit Go.Lib Go.Sort Ovi
set_option maxHeartbeats 2000000 in
set_option maxRecDepth 1000000 in
theorem Tryz.cmp_both (b o c b' o' c' : Nat) (xs ys : List Int) (w : World) (hl : xs.length < 4611686018427387904) (hl' : ys.length < 4611686018427387904)
    (hx : ∀ (i : Nat) z, xs[i]? = some z → w.cell? ⟨b, o + i, none⟩ = some (.int .i64 z)) (hy : ∀ (i : Nat) z, ys[i]? = some z → w.cell? ⟨b', o' + i, none⟩ = some (.int .i64 z)) :
    Calls Tryz.prog 226 #[.slice (some ⟨b, o, none⟩) xs.length c, .slice (some ⟨b', o', none⟩) ys.length c'] w fun e w' => e = .returned (.int .i64 (cmpL xs ys)) ∧ w' = w := by
  go_enter Tryz.func226, Tryz.ntmps226
  go_wp2
  go_loop [11] (fun i => ∃ k : Nat, k ≤ xs.length ∧ k ≤ ys.length ∧ i = .int .i64 k ∧ Hid (cmpL xs ys = cmpL (xs.drop k) (ys.drop k))) (fun i => xs.length - (intOf i).toNat)
  case atStart => exact ⟨0, Nat.zero_le _, Nat.zero_le _, rfl, rfl⟩
  case round =>
    obtain ⟨k, hk, hk', rfl, H⟩ := hrel
    by_cases hlt : k < xs.length
    · by_cases hlt' : k < ys.length
      · have g1 := hx k _ (List.getElem?_eq_getElem hlt)
        have g2 := hy k _ (List.getElem?_eq_getElem hlt')
        have D : Hid (cmpL (xs.drop k) (ys.drop k) = if xs[k] < ys[k] then -1 else if xs[k] > ys[k] then 1 else cmpL (xs.drop (k + 1)) (ys.drop (k + 1))) := by
          show _ = _
          rw [List.drop_eq_getElem_cons hlt, List.drop_eq_getElem_cons hlt']
          rfl
        clear hx hy
        have hcon := Any.cmp_Compare_int Tryz.lays122 xs[k] ys[k] w
        change Calls Tryz.prog 225 _ _ _ at hcon
        have E : Hid (Lib.compareInt xs[k] ys[k] = if xs[k] < ys[k] then -1 else if xs[k] > ys[k] then 1 else 0) := by
          show _ = _
          unfold Lib.compareInt
          rfl
        generalize hr : Lib.compareInt xs[k] ys[k] = r at hcon E
        clear hr
        generalize xs[k] = x at *
        generalize ys[k] = y at *
        by_cases hr0 : r = 0
        · subst hr0
          go_wp2_with (go_at_call 225; refine hcon.mono ?_; rintro e w' ⟨rfl, rfl⟩)
          go_round
          case rel =>
            refine ⟨k + 1, by omega, by omega, by go_num, ?_⟩
            show _ = _
            have h1 := E.out
            have h2 := D.out
            rw [H.out, h2]
            by_cases q1 : x < y
            · rw [if_pos q1] at h1; omega
            · rw [if_neg q1] at h1 ⊢
              by_cases q2 : x > y
              · rw [if_pos q2] at h1; omega
              · rw [if_neg q2]
          case measure => simp [intOf]; omega
        · go_wp2_with (go_at_call 225; refine hcon.mono ?_; rintro e w' ⟨rfl, rfl⟩)
          go_ret
          refine ⟨?_, rfl⟩
          show Ending.returned (Value.int .i64 r) = Ending.returned (Value.int .i64 (cmpL xs ys))
          have h1 := E.out
          have h2 := D.out
          rw [H.out, h2]
          by_cases q1 : x < y
          · rw [if_pos q1] at h1 ⊢; rw [h1]
          · rw [if_neg q1] at h1 ⊢
            by_cases q2 : x > y
            · rw [if_pos q2] at h1 ⊢; rw [h1]
            · rw [if_neg q2] at h1; exact absurd h1 hr0
      · obtain rfl : k = ys.length := by omega
        have g1 := hx ys.length _ (List.getElem?_eq_getElem hlt)
        have D : Hid (cmpL xs ys = 1) := by
          show _ = _
          rw [H.out, List.drop_length, List.drop_eq_getElem_cons hlt]
          rfl
        clear hx hy H
        generalize xs[ys.length] = x at g1
        go_wp2
        go_ret
        refine ⟨?_, rfl⟩
        show Ending.returned (Value.int .i64 1) = Ending.returned (Value.int .i64 (cmpL xs ys))
        rw [D.out]
    · clear hx hy
      obtain rfl : k = xs.length := by omega
      by_cases hlen : xs.length < ys.length
      · go_wp2
        go_ret
        refine ⟨?_, rfl⟩
        rw [H.out, List.drop_length, List.drop_eq_getElem_cons hlen]
        rfl
      · go_wp2
        go_ret
        refine ⟨?_, rfl⟩
        rw [H.out, List.drop_length, List.drop_of_length_le (by omega)]
        rfl
set_option maxHeartbeats 2000000 in
set_option maxRecDepth 1000000 in
theorem Tryz.cmp_nil (A A' : Option Addr) (c n c' : Nat) (w : World) :
    Calls Tryz.prog 226 #[.slice A 0 c, .slice A' n c'] w fun e w' => e = .returned (.int .i64 (if 0 < n then -1 else 0)) ∧ w' = w := by
  by_cases hn : 0 < n
  · rw [if_pos hn]
    go_enter Tryz.func226, Tryz.ntmps226
    go_wp2
    go_loop [11] (fun i => i = .int .i64 0) (fun _ => 0)
    case atStart => rfl
    case round =>
      subst hrel
      go_wp2
      go_ret
      exact ⟨rfl, rfl⟩
  · rw [if_neg hn]
    obtain rfl : n = 0 := by omega
    go_enter Tryz.func226, Tryz.ntmps226
    go_wp2
    go_loop [11] (fun i => i = .int .i64 0) (fun _ => 0)
    case atStart => rfl
    case round =>
      subst hrel
      go_wp2
      go_ret
      exact ⟨rfl, rfl⟩
set_option maxHeartbeats 2000000 in
set_option maxRecDepth 1000000 in
theorem Tryz.cmp_one (b o c n c' : Nat) (A' : Option Addr) (x : Int) (w : World) (hn : 0 < n) (hx : w.cell? ⟨b, o, none⟩ = some (.int .i64 x)) :
    Calls Tryz.prog 226 #[.slice (some ⟨b, o, none⟩) n c, .slice A' 0 c'] w fun e w' => e = .returned (.int .i64 1) ∧ w' = w := by
  go_enter Tryz.func226, Tryz.ntmps226
  go_wp2
  go_loop [11] (fun i => i = .int .i64 0) (fun _ => 0)
  case atStart => rfl
  case round =>
    subst hrel
    go_wp2
    go_ret
    exact ⟨rfl, rfl⟩
end Go.Proofs

/-! YEq -/
namespace Go.Proofs
open Go.Shelf Go.RowKit Go.Lib Go.Sort Ovi
/-- a list that is not empty lies in cells -/
theorem RI_addr {w : World} {S : Nat → Prop} {zs : List Int} {B : Option Addr} (hne : zs ≠ []) (h : ∀ (i : Nat) z, zs[i]? = some z → ∃ ad, B = some ad ∧ S ad.block ∧ w.cell? (ad.add i) = some (.int .i64 z)) : ∃ b o, B = some ⟨b, o, none⟩ ∧ ∀ (i : Nat) z, zs[i]? = some z → w.cell? ⟨b, o + i, none⟩ = some (.int .i64 z) := by
  cases zs with
  | nil => exact absurd rfl hne
  | cons z0 zs =>
    obtain ⟨ad, e, _, h0⟩ := h 0 z0 rfl
    obtain ⟨b, o, spot⟩ := ad
    have hspot : spot = none := by simpa [Addr.add] using World.cell?_spot h0
    subst hspot
    refine ⟨b, o, e, fun i z hz => ?_⟩
    obtain ⟨ad', e', _, hi⟩ := h i z hz
    rw [e] at e'
    cases e'
    rwa [Ovi.add_at] at hi
theorem cells_getD {w : World} {b o : Nat} {zs : List Int} (h : ∀ (i : Nat) z, zs[i]? = some z → w.cell? ⟨b, o + i, none⟩ = some (.int .i64 z)) : ∀ j, j < zs.length → w.cell? ⟨b, o + j, none⟩ = some (.int .i64 (zs.getD j 0)) := by
  intro j hj
  have hg := List.getElem?_eq_getElem hj
  rw [h j _ hg, List.getD_eq_getElem?_getD, hg]
  rfl
end Go.Proofs

/-! YCa -/
namespace Go.Proofs
open Go.Shelf Go.RowKit Go.Lib Go.Sort
section
variable {α : Type} [Inhabited α]
/-- the row's atoms -/
def ats (lst : α → Int × List Int) (d : Array α) : Array (Int × List Int) := d.map lst
omit [Inhabited α] in
theorem ats_size (lst : α → Int × List Int) (d : Array α) : (ats lst d).size = d.size := by simp [ats]
theorem ats_get (lst : α → Int × List Int) {d : Array α} {k : Nat} (h : k < d.size) : (ats lst d)[k]! = lst d[k]! := by
  rw [getElem!_pos _ k (by rw [ats_size]; exact h), getElem!_pos d k h]
  simp [ats]
omit [Inhabited α] in
theorem ats_set (lst : α → Int × List Int) (d : Array α) (k : Nat) (x : α) : ats lst (d.setIfInBounds k x) = (ats lst d).setIfInBounds k (lst x) := by
  unfold ats
  apply Array.ext_getElem?
  intro i
  simp only [Array.getElem?_map, Array.getElem?_setIfInBounds, Array.size_map]
  by_cases h : k = i
  · subst h
    simp only [if_true]
    split <;> rfl
  · simp [h]
/-- what slices.CompactFunc leaves -/
def CaPost (lst : α → Int × List Int) (enc : α → List Value) (w : World) (blk off cap : Nat) (d : Array α) (e : Ending) (w' : World) : Prop :=
  ∃ (dk : Array α) (kk : Nat), e = .returned (.slice (some ⟨blk, off, none⟩) kk cap) ∧ dk.size = d.size ∧ SWK enc 2 w blk off dk w' ∧ kk ≤ d.size ∧ (dk.toList.take kk).map lst = Lib.compact (d.toList.map lst)
theorem ca_same (lst : α → Int × List Int) (enc : α → List Value) {w w' : World} {blk off cap : Nat} {d : Array α} (hS : SWK enc 2 w blk off d w') (hall : ∀ j, j < d.size → keeps (ats lst d) j = true) : CaPost lst enc w blk off cap d (.returned (.slice (some ⟨blk, off, none⟩) d.size cap)) w' := by
  refine ⟨d, d.size, rfl, rfl, hS, Nat.le_refl _, ?_⟩
  rw [show d.size = d.toList.length by simp, List.take_length]
  have := compact_all (d.toList.map lst) (fun j hj => by
    have h2 : (d.toList.map lst).toArray = ats lst d := by apply Array.ext_getElem?; intro i; simp [ats]
    rw [h2]
    exact hall j (by simpa using hj))
  exact this.symm
theorem ca_done (lst : α → Int × List Int) {d dk : Array α} {kk : Nat} (h : CompInv (ats lst d) (ats lst d).size kk (ats lst dk)) (hs : dk.size = d.size) : (dk.toList.take kk).map lst = Lib.compact (d.toList.map lst) := by
  have h2 : (d.toList.map lst).toArray = ats lst d := by apply Array.ext_getElem?; intro i; simp [ats]
  unfold Lib.compact
  rw [h2, show (d.toList.map lst).length = (ats lst d).size by simp [ats]]
  have hlt := h.lt
  rw [ats_size] at hlt
  apply List.ext_getElem?
  intro i
  by_cases hi : i < kk
  · rw [h.low i hi, ats_get lst (by omega), List.getElem?_map, List.getElem?_take_of_lt hi, getElem!_pos dk i (by omega)]
    simp [show i < dk.size by omega]
  · rw [List.getElem?_eq_none (by simp; omega), List.getElem?_eq_none (by rw [h.len]; omega)]
omit [Inhabited α] in
theorem lay_size' : ∀ (xs : List α) (d : Array α) (k : Nat), (lay d k xs).size = d.size
  | [], _, _ => rfl
  | x :: r, d, k => by rw [lay, lay_size' r]; simp
/-- what is asked of the comparison -/
def EqLays (P : Program) (g : Nat) (enc : α → List Value) (lst : α → Int × List Int) (blk off size : Nat) (w : World) : Prop :=
  ∀ (m : Nat) (os : Array Obj) (dk : Array α), dk.size = size → ∀ x y : α,
    Calls P g #[.agg (enc x).toArray, .agg (enc y).toArray] (sortWorldK enc 2 w blk off m dk os) fun e w' => e = .returned (.bool (decide (lst x = lst y))) ∧ ∃ q os', w' = grow ((sortWorldK enc 2 w blk off m dk os).drewN q) os'
theorem SWK.eqc {P : Program} {enc : α → List Value} {lst : α → Int × List Int} {w0 W : World} {blk off : Nat} {dk : Array α} {g size : Nat} (h : SWK enc 2 w0 blk off dk W) (hC : EqLays P g enc lst blk off size w0) (hs : dk.size = size) (x y : α) (n : Nat) (os : Array Obj) :
    Calls P g #[.agg (enc x).toArray, .agg (enc y).toArray] (grow (W.drewN n) os) fun e w' => e = .returned (.bool (decide (lst x = lst y))) ∧ ∃ q os', w' = grow ((grow (W.drewN n) os).drewN q) os' := by
  obtain ⟨m, os0, hw⟩ := h.grown n os
  rw [hw]
  exact hC m os0 dk hs x y
theorem SWK.cells2 {enc : α → List Value} {w0 W : World} {blk off : Nat} {dk d0 : Array α} (h : SWK enc 2 w0 blk off dk W) (R : RowK enc 2 w0 blk off d0) (hs : dk.size = d0.size) (i : Nat) (hi : i < dk.size) :
    W.cell? ⟨blk, off + i * 2, none⟩ = some (enc dk[i]!)[0]! ∧ W.cell? ⟨blk, off + i * 2 + 1, none⟩ = some (enc dk[i]!)[1]! ∧ W.frozen? ⟨blk, off + i * 2, none⟩ = false ∧ W.frozen? ⟨blk, off + i * 2 + 1, none⟩ = false := by
  have hH := h.holds R.hblk R.hH hs
  have h0 := hH.cell (c := 0) hi (by omega)
  have h1 := hH.cell (c := 1) hi (by omega)
  exact ⟨h0.1, h1.1, h0.2, h1.2⟩
theorem two {l : List Value} (h : l.length = 2) : l = [l[0]!, l[1]!] := by
  match l, h with
  | [a, b], _ => rfl
set_option maxHeartbeats 8000000 in
set_option maxRecDepth 1000000 in
theorem Tryz.compactFacts (enc : α → List Value) (lst : α → Int × List Int) (z : α) (hz : enc z = [.int .i64 0, .slice none 0 0]) (g : Nat) (blk off cap : Nat) (d : Array α) (w : World) (R : RowK enc 2 w blk off d)
    (eg : ∀ args w, (callFunc g args).run Tryz.prog w = .ok (.enter g args) w) (hcmp : EqLays Tryz.prog g enc lst blk off d.size w)
    (hsz : d.size < 4611686018427387904) (hcap : d.size ≤ cap) :
    Calls Tryz.prog 170 #[.slice (some ⟨blk, off, none⟩) d.size cap, .func (.func g) #[] #[]] w (CaPost lst enc w blk off cap d) := by
  have mixed : Tryz.prog.follows .mixedOrders = true := by kernel_rfl
  have RR : Aside (RowK enc 2 w blk off d) := R
  have HC : Aside (EqLays Tryz.prog g enc lst blk off d.size w) := hcmp
  have S0 : Aside (SWK enc 2 w blk off d w) := SWK.start R.hH
  clear hcmp R
  by_cases h2 : d.size < 2
  · go_enter Tryz.func170, Tryz.ntmps170
    go_wp2
    go_ret
    exact ca_same lst enc S0.out (fun j hj => keeps_lt_one _ j (by omega))
  · go_enter Tryz.func170, Tryz.ntmps170
    go_wp2
    go_loopg [5] d.size (fun g s5 wr => ∃ k : Nat, 1 ≤ k ∧ k ≤ d.size ∧ d.size - k ≤ g ∧ s5 = .int .i64 k ∧ Aside (SWK enc 2 w blk off d wr) ∧ Hid (∀ j, j < k → keeps (ats lst d) j = true))
    case atStart => exact ⟨1, Nat.le_refl _, by omega, by omega, rfl, S0, keeps_lt_one _⟩
    case round =>
      clear S0
      obtain ⟨k, hk1, hk, hg, rfl, S1, hall⟩ := hrel
      by_cases hlt : k < d.size
      · obtain ⟨k1, rfl⟩ : ∃ k1, k = k1 + 1 := ⟨k - 1, by omega⟩
        have cj0 := fun n os => ((S1.out.grown n os).cells2 RR.out rfl (k1 + 1) hlt).1
        have cj1 := fun n os => ((S1.out.grown n os).cells2 RR.out rfl (k1 + 1) hlt).2.1
        have cp0 := fun n os => ((S1.out.grown n os).cells2 RR.out rfl k1 (by omega)).1
        have cp1 := fun n os => ((S1.out.grown n os).cells2 RR.out rfl k1 (by omega)).2.1
        have hcg := fun n os => S1.out.eqc HC.out rfl d[k1 + 1]! d[k1]! n os
        have B : Aside ((ats lst d)[k1 + 1]! = lst d[k1 + 1]! ∧ (ats lst d)[k1]! = lst d[k1]!) := ⟨ats_get lst hlt, ats_get lst (by omega)⟩
        have hx2 : (enc d[k1 + 1]!).length = 2 := RR.out.hk _
        have hy2 : (enc d[k1]!).length = 2 := RR.out.hk _
        generalize d[k1 + 1]! = x at *
        generalize d[k1]! = y at *
        rw [two hx2, two hy2] at hcg
        generalize (enc x)[0]! = x0 at *
        generalize (enc x)[1]! = x1 at *
        generalize (enc y)[0]! = y0 at *
        generalize (enc y)[1]! = y1 at *
        clear hx2 hy2
        have hwp : IntKind.i64.wrap (k1 : Int) = (k1 : Int) := by rw [IntKind.wrap_i64]; omega
        have jz : (k1 : Int) + 1 < (d.size : Int) := by omega
        have jz1 : (k1 : Int) < (d.size : Int) := by omega
        have p0 : (0 : Int) ≤ (k1 : Int) + 1 := by omega
        have e0 : ((k1 : Int) + 1).toNat = k1 + 1 := by omega
        by_cases hdup : lst x = lst y
        · have hd : decide (lst x = lst y) = true := decide_eq_true hdup
          rw [hd] at hcg
          clear hd
          go_wp2_with fail
          go_quiet_grown (first | (go_at_fn g; refine Calls.grown_of (hcg _ _)))
          go_wp2_with fail
          go_wp2
          go_loopg [5, 7] d.size (fun g s5 s7 wr => ∃ (kk kb : Nat) (dk : Array α), s5 = .int .i64 kk ∧ s7 = .int .i64 ((kb + 1 : Nat) : Int) ∧ k1 + 1 + (kb + 1) ≤ d.size ∧ d.size - (k1 + 1 + (kb + 1)) ≤ g ∧ dk.size = d.size ∧ Aside (SWK enc 2 w blk off dk wr) ∧ Hid (CompInv (ats lst d) (k1 + 1 + (kb + 1)) kk (ats lst dk)))
          case atStart =>
            refine ⟨k1 + 1, 0, d, by first | rfl | go_num, by first | rfl | go_num, by omega, by omega, rfl, S1.out.grown nq osq, (show CompInv _ _ _ _ from ?_)⟩
            exact CompInv.start hall.out (keeps_neg (by omega) (by rw [B.out.1, Nat.add_sub_cancel, B.out.2]; exact hdup))
          case round =>
            clear S1 cj0 cj1 cp0 cp1 hcg
            obtain ⟨kk, kb, dk, rfl, rfl, hle, hg2, hds, S3, hI⟩ := hrel
            have hkk := hI.out.lt
            by_cases hlt2 : k1 + 1 + (kb + 1) < d.size
            · have cm0 := fun n os => ((S3.out.grown n os).cells2 RR.out hds (k1 + 1 + (kb + 1)) (by omega)).1
              have cm1 := fun n os => ((S3.out.grown n os).cells2 RR.out hds (k1 + 1 + (kb + 1)) (by omega)).2.1
              have cp0 := fun n os => ((S3.out.grown n os).cells2 RR.out hds (k1 + 1 + kb) (by omega)).1
              have cp1 := fun n os => ((S3.out.grown n os).cells2 RR.out hds (k1 + 1 + kb) (by omega)).2.1
              have hcg := fun n os => S3.out.eqc HC.out hds dk[k1 + 1 + (kb + 1)]! dk[k1 + 1 + kb]! n os
              have B2 : Aside ((ats lst d)[k1 + 1 + (kb + 1)]! = lst dk[k1 + 1 + (kb + 1)]! ∧ (ats lst d)[k1 + 1 + kb]! = lst dk[k1 + 1 + kb]!) :=
                ⟨by rw [← hI.out.high _ (by omega), ats_get lst (by omega)], by rw [← hI.out.high _ (by omega), ats_get lst (by omega)]⟩
              rw [show off + (k1 + 1 + (kb + 1)) * 2 = off + (k1 + 1) * 2 + (kb + 1) * 2 by omega] at cm0 cm1
              rw [show off + (k1 + 1 + kb) * 2 = off + (k1 + 1) * 2 + kb * 2 by omega] at cp0 cp1
              have hx2 : (enc dk[k1 + 1 + (kb + 1)]!).length = 2 := RR.out.hk _
              have hy2 : (enc dk[k1 + 1 + kb]!).length = 2 := RR.out.hk _
              have hu1 := RR.out.h1 dk[k1 + 1 + (kb + 1)]!
              generalize dk[k1 + 1 + (kb + 1)]! = um at *
              generalize dk[k1 + 1 + kb]! = up at *
              have E : Aside (enc um = [(enc um)[0]!, (enc um)[1]!]) := two hx2
              rw [two hx2, two hy2] at hcg
              rw [two hx2] at hu1
              have o0 : (enc um)[0]!.oneCell' = true := hu1 _ (by simp)
              have o1 : (enc um)[1]!.oneCell' = true := hu1 _ (by simp)
              generalize (enc um)[0]! = m0 at *
              generalize (enc um)[1]! = m1 at *
              generalize (enc up)[0]! = p0' at *
              generalize (enc up)[1]! = p1' at *
              clear hx2 hy2 hu1
              have r1 : (kb : Int) + 1 < ((d.size - (k1 + 1) : Nat) : Int) := by omega
              have r2 : (kb : Int) < ((d.size - (k1 + 1) : Nat) : Int) := by omega
              have r3 : (0 : Int) ≤ (kb : Int) + 1 := by omega
              have r4 : ((kb : Int) + 1).toNat = kb + 1 := by omega
              have r5 : IntKind.i64.wrap (kb : Int) = (kb : Int) := by rw [IntKind.wrap_i64]; omega
              have r6 : kk < d.size := by omega
              by_cases hdup2 : lst um = lst up
              · have hd : decide (lst um = lst up) = true := decide_eq_true hdup2
                rw [hd] at hcg
                clear hd
                go_wp2_with fail
                go_quiet_grown (first | (go_at_fn g; refine Calls.grown_of (hcg _ _)))
                go_wp2
                go_roundg (d.size - (k1 + 1 + (kb + 1 + 1)))
                case measure => omega
                case rel => exact ⟨kk, kb + 1, dk, rfl, by go_num, by omega, Nat.le_refl _, hds, S3.out.grown nq osq, hI.out.skip (keeps_neg (by omega) (by rw [B2.out.1, show k1 + 1 + (kb + 1) - 1 = k1 + 1 + kb by omega, B2.out.2]; exact hdup2))⟩
              · have hd : decide (lst um = lst up) = false := decide_eq_false hdup2
                rw [hd] at hcg
                clear hd
                go_wp2_with fail
                go_quiet_grown (first | (go_at_fn g; refine Calls.grown_of (hcg _ _)))
                go_wp2_with fail
                have S4 : Aside (SWK enc 2 w blk off dk (grow (wr.drewN nq) osq)) := S3.out.grown nq osq
                have cm02 := cm0 nq osq
                have cm12 := cm1 nq osq
                obtain ⟨ck0, ck1, fk0, fk1⟩ := S4.out.cells2 RR.out hds kk (by omega)
                clear cm0 cm1 cp0 cp1 hcg S3
                generalize grow (wr.drewN nq) osq = wr4 at cm02 cm12 ck0 ck1 fk0 fk1 S4 ⊢
                generalize (enc dk[kk]!)[0]! = k0 at *
                generalize (enc dk[kk]!)[1]! = k1' at *
                have hst0 : Sem.run Tryz.prog (store ⟨blk, off + kk * 2, none⟩ m0) wr4 = .ok () (wr4.setCell ⟨blk, off + kk * 2, none⟩ m0) := by rw [run_store Tryz.prog _ _ _ _ o0, ck0]; simp [fk0]
                have hst1 : Sem.run Tryz.prog (store ⟨blk, off + kk * 2 + 1, none⟩ m1) (wr4.setCell ⟨blk, off + kk * 2, none⟩ m0) = .ok () ((wr4.setCell ⟨blk, off + kk * 2, none⟩ m0).setCell ⟨blk, off + kk * 2 + 1, none⟩ m1) := by
                  rw [run_store Tryz.prog _ _ _ _ o1, World.cell?_setCell_other _ _ _ _ (by simp), ck1, World.frozen?_setCell]; simp [fk1]
                have S5 : Aside (SWK enc 2 w blk off (dk.setIfInBounds kk um) ((wr4.setCell ⟨blk, off + kk * 2, none⟩ m0).setCell ⟨blk, off + kk * 2 + 1, none⟩ m1)) := by
                  have := S4.out.set RR.out kk (by omega) um
                  rw [E.out] at this
                  exact this
                generalize (wr4.setCell ⟨blk, off + kk * 2, none⟩ m0).setCell ⟨blk, off + kk * 2 + 1, none⟩ m1 = wr5 at hst1 S5
                generalize wr4.setCell ⟨blk, off + kk * 2, none⟩ m0 = wr45 at hst0 hst1
                go_wp2
                simp only [hst0, hst1, Result.andThen_ok]
                go_wp2
                go_roundg (d.size - (k1 + 1 + (kb + 1 + 1)))
                case measure => omega
                case rel =>
                  refine ⟨kk + 1, kb + 1, dk.setIfInBounds kk um, by go_num, by go_num, by omega, Nat.le_refl _, by simpa using hds, S5, (show CompInv _ _ _ _ from ?_)⟩
                  have := hI.out.keep (by rw [ats_size]; omega) (keeps_pos (by rw [B2.out.1, show k1 + 1 + (kb + 1) - 1 = k1 + 1 + kb by omega, B2.out.2]; exact hdup2))
                  rw [B2.out.1] at this
                  rw [ats_set]
                  exact this
            · have hend : k1 + 1 + (kb + 1) = d.size := by omega
              have hcl : ∀ ty, (Builtin.clear_ #[28] ty #[.slice (some ⟨blk, off + kk * 2, none⟩) (d.size - kk) (cap - kk)]).run Tryz.prog wr = .ok (.tuple #[]) (wr.setCells blk (off + kk * 2) (List.replicate (d.size - kk) (enc z)).flatten) :=
                fun ty => S3.out.clear RR.out hds Tryz.prog 28 118 ty z (.agg #[.int .i64 0, .slice none 0 0]) Tryz.underlying28 Tryz.zeroValue118 (by rw [hz]; rfl) (by omega) kk (d.size - kk) (cap - kk) (by omega) (by omega)
              have S4 : Aside (SWK enc 2 w blk off (Lib.lay dk kk (List.replicate (d.size - kk) z)) (wr.setCells blk (off + kk * 2) (List.replicate (d.size - kk) (enc z)).flatten)) := SWK.lay RR.out z (d.size - kk) kk dk wr S3.out (by omega)
              generalize wr.setCells blk (off + kk * 2) (List.replicate (d.size - kk) (enc z)).flatten = wr6 at hcl S4
              have r1 : ¬ (kb : Int) + 1 < ((d.size - (k1 + 1) : Nat) : Int) := by omega
              clear S3
              go_wp2
              go_ret
              have hI := hI.out
              rw [hend] at hI
              refine ⟨Lib.lay dk kk (List.replicate (d.size - kk) z), kk, rfl, ?_, S4.out, by omega, ?_⟩
              · rw [lay_size']; exact hds
              · rw [← ca_done lst (by rw [ats_size]; exact hI) hds]
                congr 1
                apply List.ext_getElem?
                intro i
                rw [List.getElem?_take, List.getElem?_take]
                by_cases h : i < kk
                · rw [if_pos h, if_pos h, Array.getElem?_toList, Array.getElem?_toList, lay_get? _ _ _ _ (by simp; omega), if_neg (by omega)]
                · rw [if_neg h, if_neg h]
        · have hd : decide (lst x = lst y) = false := decide_eq_false hdup
          rw [hd] at hcg
          clear hd
          go_wp2_with fail
          go_quiet_grown (first | (go_at_fn g; refine Calls.grown_of (hcg _ _)))
          go_wp2
          go_roundg (d.size - (k1 + 1 + 1))
          case measure => omega
          case rel =>
            refine ⟨k1 + 1 + 1, by omega, by omega, Nat.le_refl _, by go_num, S1.out.grown nq osq, (show ∀ j, j < k1 + 1 + 1 → keeps (ats lst d) j = true from fun j hj => ?_)⟩
            by_cases e : j = k1 + 1
            · subst e
              exact keeps_pos (by rw [B.out.1, Nat.add_sub_cancel, B.out.2]; exact hdup)
            · exact hall.out j (by omega)
      · have : k = d.size := by omega
        subst this
        go_wp2
        go_ret
        exact ca_same lst enc S1.out hall.out
end
end Go.Proofs

/-! YCb -/
namespace Go.Proofs
open Go.Shelf Go.RowKit Go.Lib Go.Sort Ovi
def cmpA (x y : Int × List Int) : Int := if x.1 < y.1 then -1 else if x.1 > y.1 then 1 else cmpL x.2 y.2
set_option maxHeartbeats 4000000 in
set_option maxRecDepth 1000000 in
theorem Tryz.or2 (b c : Nat) (x y : Int) (w : World) (h0 : w.cell? ⟨b, 0, none⟩ = some (.int .i64 x)) (h1 : w.cell? ⟨b, 1, none⟩ = some (.int .i64 y)) :
    Calls Tryz.prog 224 #[.slice (some ⟨b, 0, none⟩) 2 c] w fun e w' => e = .returned (.int .i64 (if x = 0 then y else x)) ∧ w' = w := by
  go_enter Tryz.func224, Tryz.ntmps224
  go_wp2
  go_loopg [8] 2 (fun g s8 wr => ∃ i : Nat, i ≤ 2 ∧ 2 - i ≤ g ∧ s8 = .int .i64 i ∧ wr = w ∧ (1 ≤ i → x = 0) ∧ (2 ≤ i → y = 0))
  case atStart => exact ⟨0, by omega, by omega, rfl, rfl, fun h => by omega, fun h => by omega⟩
  case round =>
    obtain ⟨i, hi, hg, rfl, rfl, hx, hy⟩ := hrel
    match i, hi with
    | 0, _ =>
      by_cases hx0 : x = 0
      · subst hx0
        go_wp2
        go_roundg 1
        case measure => omega
        case rel => exact ⟨1, by omega, by omega, by first | rfl | go_num, rfl, fun _ => by first | trivial | rfl, fun h => by omega⟩
      · go_wp2
        go_ret
        exact ⟨rfl, rfl⟩
    | 1, _ =>
      obtain rfl := hx (by omega)
      by_cases hy0 : y = 0
      · subst hy0
        go_wp2
        go_roundg 0
        case measure => omega
        case rel => exact ⟨2, by omega, by omega, by first | rfl | go_num, rfl, fun _ => by first | trivial | rfl, fun _ => by first | trivial | rfl⟩
      · go_wp2
        go_ret
        exact ⟨rfl, rfl⟩
    | 2, _ =>
      obtain rfl := hx (by omega)
      obtain rfl := hy (by omega)
      go_wp2
      go_ret
      exact ⟨rfl, rfl⟩
set_option maxHeartbeats 40000000 in
set_option maxRecDepth 1000000 in
theorem Tryz.cmpFacts (r1 r2 : Int) (u v : Value) (c : Int) (w : World) (hu : u.oneCell' = true) (hv : v.oneCell' = true)
    (h108 : ∀ o1 o2, Calls Tryz.prog 226 #[u, v] ((w.alloc o1).alloc o2).drew fun e w' => e = .returned (.int .i64 c) ∧ w' = ((w.alloc o1).alloc o2).drew) :
    Calls Tryz.prog 169 #[.agg #[.int .i64 r1, u], .agg #[.int .i64 r2, v]] w fun e w' => e = .returned (.int .i64 (if Lib.compareInt r1 r2 = 0 then c else Lib.compareInt r1 r2)) ∧ ∃ q os', w' = grow (w.drewN q) os' := by
  have mixed : Tryz.prog.follows .mixedOrders = true := by kernel_rfl
  have h116 : ∀ W, Calls Tryz.prog 225 #[.int .i64 r1, .int .i64 r2] W fun e w' => e = .returned (.int .i64 (Lib.compareInt r1 r2)) ∧ w' = W := fun W => Any.cmp_Compare_int Tryz.lays122 r1 r2 W
  obtain ⟨z, hz⟩ : ∃ z, z = if Lib.compareInt r1 r2 = 0 then c else Lib.compareInt r1 r2 := ⟨_, rfl⟩
  have hor : ∀ (b k : Nat) (W : World), W.cell? ⟨b, 0, none⟩ = some (.int .i64 (Lib.compareInt r1 r2)) → W.cell? ⟨b, 1, none⟩ = some (.int .i64 c) → Calls Tryz.prog 224 #[.slice (some ⟨b, 0, none⟩) 2 k] W fun e w' => e = .returned (.int .i64 z) ∧ w' = W := fun b k W h0 h1 => by rw [hz]; exact Tryz.or2 b k _ _ W h0 h1
  rw [← hz]
  clear hz
  generalize Lib.compareInt r1 r2 = r at *
  go_enter Tryz.func169, Tryz.ntmps169
  go_wp2
  have c0 : ((w.alloc (Obj.cells #[Value.int IntKind.i64 r1, u] 118)).alloc (Obj.cells #[Value.int IntKind.i64 r2, v] 118)).drew.cell? ⟨w.heap.size, 0, none⟩ = some (.int .i64 r1) := by go_simp
  have c1 : ((w.alloc (Obj.cells #[Value.int IntKind.i64 r1, u] 118)).alloc (Obj.cells #[Value.int IntKind.i64 r2, v] 118)).drew.cell? ⟨w.heap.size, 1, none⟩ = some u := by go_simp
  have c2 : ((w.alloc (Obj.cells #[Value.int IntKind.i64 r1, u] 118)).alloc (Obj.cells #[Value.int IntKind.i64 r2, v] 118)).drew.cell? ⟨w.heap.size + 1, 0, none⟩ = some (.int .i64 r2) := by go_simp
  have c3 : ((w.alloc (Obj.cells #[Value.int IntKind.i64 r1, u] 118)).alloc (Obj.cells #[Value.int IntKind.i64 r2, v] 118)).drew.cell? ⟨w.heap.size + 1, 1, none⟩ = some v := by go_simp
  have hg : ∀ o, (((w.alloc (Obj.cells #[Value.int IntKind.i64 r1, u] 118)).alloc (Obj.cells #[Value.int IntKind.i64 r2, v] 118)).drew.alloc o) = grow (w.drewN 1) #[Obj.cells #[Value.int IntKind.i64 r1, u] 118, Obj.cells #[Value.int IntKind.i64 r2, v] 118, o] := fun o => by
    unfold World.alloc World.drew World.drewN grow
    simp only [World.mk.injEq, and_true, true_and]
    apply Array.ext'
    simp
  have h108 := h108 (Obj.cells #[Value.int IntKind.i64 r1, u] 118) (Obj.cells #[Value.int IntKind.i64 r2, v] 118)
  have HG : Aside _ := hg
  clear hg
  generalize hW : (w.alloc (Obj.cells #[Value.int IntKind.i64 r1, u] 118)).alloc (Obj.cells #[Value.int IntKind.i64 r2, v] 118) = W at *
  have HW : Hid _ := hW
  clear hW
  go_region_with_o (first
    | (go_at_call 225; refine (h116 _).mono ?_; rintro e w' ⟨rfl, rfl⟩)
    | (go_at_call 226; refine h108.mono ?_; rintro e w' ⟨rfl, rfl⟩)
    | (go_at_call 224; refine (hor _ _ _ (by go_simp) (by go_simp)).mono ?_; rintro e w' ⟨rfl, rfl⟩))
  all_goals (
    go_wp2
    go_ret
    exact ⟨rfl, 1, _, HG.out _⟩)
end Go.Proofs

/-! YSb -/
namespace Go.Proofs
open Go Ovi Go.RowKit Go.Shelf Go.Sort Go.Lib
theorem Tryz.cfa_nil (A : Option Addr) (cap : Nat) (w : World) : Calls Tryz.prog 170 #[.slice A 0 cap, .func (.func 171) #[] #[]] w fun e w' => e = .returned (.slice A 0 cap) ∧ w' = w := by
  go_enter Tryz.func170, Tryz.ntmps170
  go_wp2
  go_ret
  exact ⟨rfl, rfl⟩
/-- slices.Compare's contract, where the lists lie -/
theorem Tryz.cmp108 {w : World} {S : Nat → Prop} {u v : Value} {xs ys : List Int} (hu : RI w S u xs) (hv : RI w S v ys) (hxl : xs.length ≤ 1099511627776) (hyl : ys.length ≤ 1099511627776) : Calls Tryz.prog 226 #[u, v] w fun e w' => e = .returned (.int .i64 (cmpL xs ys)) ∧ w' = w := by
  obtain ⟨A, c, hu, hc, hx⟩ := hu
  obtain ⟨A', c', hv, hc', hy⟩ := hv
  subst hu hv
  have fin : ∀ {z z' : Int}, z = z' → ∀ {vs : Array Value}, (Calls Tryz.prog 226 vs w fun e w' => e = .returned (.int .i64 z) ∧ w' = w) → Calls Tryz.prog 226 vs w fun e w' => e = .returned (.int .i64 z') ∧ w' = w := by
    intro z z' hz vs h
    subst hz
    exact h
  by_cases hx0 : xs = []
  · subst hx0
    refine fin ?_ (Tryz.cmp_nil A A' c ys.length c' w)
    cases ys with
    | nil => rfl
    | cons y ys => rw [if_pos (by simp)]; rfl
  · obtain ⟨b, o, rfl, hx1⟩ := RI_addr hx0 hx
    by_cases hy0 : ys = []
    · subst hy0
      cases xs with
      | nil => exact absurd rfl hx0
      | cons x xs => exact fin rfl (Tryz.cmp_one b o c _ c' A' x w (by simp) (by have := hx1 0 x rfl; simpa using this))
    · obtain ⟨b', o', rfl, hy1⟩ := RI_addr hy0 hy
      exact fin rfl (Tryz.cmp_both b o c b' o' c' xs ys w (by omega) (by omega) hx1 hy1)
theorem alloc2_heap (W : World) (o1 o2 : Obj) {k : Nat} (h : k < W.heap.size) : ((W.alloc o1).alloc o2).drew.heap[k]? = W.heap[k]? := by
  show ((W.heap.push o1).push o2)[k]? = _
  rw [Array.getElem?_push, if_neg (by simp; omega), Array.getElem?_push, if_neg (by omega)]
theorem Tryz.cmp88 {w W : World} {S : Nat → Prop} (hS : ∀ k, S k → k < w.heap.size) (hW : Stab S w W) (hsz : w.heap.size ≤ W.heap.size) (x y : HdA w S) :
    Calls Tryz.prog 169 #[.agg (encA x).toArray, .agg (encA y).toArray] W fun e w' => e = .returned (.int .i64 (cmpHA x y)) ∧ ∃ q os', w' = grow (W.drewN q) os' := by
  have one : ∀ x : HdA w S, x.v.oneCell' = true := fun x => encA_one x _ (by simp [encA])
  have := Tryz.cmpFacts x.r y.r x.v y.v (cmpL x.l y.l) W (one x) (one y) (fun o1 o2 => by
    have hst : Stab S w ((W.alloc o1).alloc o2).drew := fun k hk => by
      rw [alloc2_heap W o1 o2 (Nat.lt_of_lt_of_le (hS k hk) hsz)]
      exact hW k hk
    exact Tryz.cmp108 (x.h.stab hst) (y.h.stab hst) x.b y.b)
  refine this.mono fun e w' ⟨h1, h2⟩ => ⟨?_, h2⟩
  rw [h1]
  congr 2
  unfold cmpHA Ovi.cmpA lstA Lib.compareInt
  by_cases c1 : x.r < y.r
  · simp [c1]
  · by_cases c2 : x.r > y.r
    · simp [c1, c2]
    · simp [c1, c2]
theorem grow_alloc2 (W : World) (o1 o2 : Obj) (q : Nat) (os : Array Obj) : grow (((W.alloc o1).alloc o2).drewN q) os = grow (W.drewN q) (#[o1, o2] ++ os) := by
  unfold World.alloc World.drewN grow
  simp only [World.mk.injEq, and_true, true_and]
  apply Array.ext'
  simp
set_option maxHeartbeats 4000000 in
set_option maxRecDepth 1000000 in
theorem Tryz.same90 (r1 r2 c : Int) (u v : Value) (hu : u.oneCell' = true) (hv : v.oneCell' = true) (W : World)
    (h88 : ∀ o1 o2, Calls Tryz.prog 169 #[.agg #[.int .i64 r1, u], .agg #[.int .i64 r2, v]] ((W.alloc o1).alloc o2) fun e w' => e = .returned (.int .i64 c) ∧ ∃ q os', w' = grow (((W.alloc o1).alloc o2).drewN q) os') :
    Calls Tryz.prog 171 #[.agg #[.int .i64 r1, u], .agg #[.int .i64 r2, v]] W fun e w' => e = .returned (.bool (decide (c = 0))) ∧ ∃ q os', w' = grow (W.drewN q) os' := by
  have h := h88 (Obj.cells #[Value.int IntKind.i64 r1, u] 118) (Obj.cells #[Value.int IntKind.i64 r2, v] 118)
  have hg := grow_alloc2 W (Obj.cells #[Value.int IntKind.i64 r1, u] 118) (Obj.cells #[Value.int IntKind.i64 r2, v] 118)
  have HG : Aside _ := hg
  clear hg h88
  go_enter Tryz.func171, Tryz.ntmps171
  go_wp2_with (go_at_call 169; refine h.mono ?_; rintro e w' ⟨rfl, q, os', rfl⟩)
  go_ret
  refine ⟨?_, q, _, HG.out q os'⟩
  first | rfl | (congr 2)
theorem Tryz.eq90 {w W : World} {S : Nat → Prop} (hS : ∀ k, S k → k < w.heap.size) (hW : Stab S w W) (hsz : w.heap.size ≤ W.heap.size) (x y : HdA w S) :
    Calls Tryz.prog 171 #[.agg (encA x).toArray, .agg (encA y).toArray] W fun e w' => e = .returned (.bool (decide (lstA x = lstA y))) ∧ ∃ q os', w' = grow (W.drewN q) os' := by
  have one : ∀ x : HdA w S, x.v.oneCell' = true := fun x => encA_one x _ (by simp [encA])
  refine (Tryz.same90 x.r y.r (cmpHA x y) x.v y.v (one x) (one y) W (fun o1 o2 => by
    have hst : Stab S w ((W.alloc o1).alloc o2) := fun k hk => by
      have := alloc2_heap W o1 o2 (Nat.lt_of_lt_of_le (hS k hk) hsz)
      exact this.trans (hW k hk)
    exact Tryz.cmp88 hS hst (by show w.heap.size ≤ ((W.heap.push o1).push o2).size; rw [Array.size_push, Array.size_push]; omega) x y)).mono fun e w' ⟨h1, h2⟩ => ⟨?_, h2⟩
  rw [h1]
  congr 2
  rw [Bool.eq_iff_iff, decide_eq_true_eq, decide_eq_true_eq]
  unfold cmpHA
  constructor
  · intro h
    refine antiA _ _ ?_ ?_
    · unfold ltA; rw [h]; rfl
    · unfold ltA
      have : cmpA (lstA x) (lstA y) = 0 := h
      rw [decide_eq_false_iff_not]
      intro h'
      have h2 : ltA (lstA y) (lstA x) = true := decide_eq_true h'
      rw [ltA_iff] at h2
      have h3 : ltA (lstA x) (lstA y) = false := by unfold ltA; rw [h]; rfl
      revert this
      unfold cmpA
      rcases h2 with h2 | ⟨h2, h2'⟩
      · rw [if_neg (by omega), if_pos (by omega)]; omega
      · rw [if_neg (by omega), if_neg (by omega)]
        intro h4
        have key : ∀ a b : List Int, cmpL a b = 0 → a = b := by
          intro a
          induction a with
          | nil => intro b hb; cases b with
            | nil => rfl
            | cons y ys => simp [cmpL] at hb
          | cons z zs ih =>
            intro b hb
            cases b with
            | nil => simp [cmpL] at hb
            | cons y ys =>
              unfold cmpL at hb
              by_cases c1 : z < y
              · rw [if_pos c1] at hb; omega
              · rw [if_neg c1] at hb
                by_cases c2 : z > y
                · rw [if_pos c2] at hb; omega
                · rw [if_neg c2] at hb
                  rw [ih ys hb, show z = y by omega]
        rw [key _ _ h4] at h2'
        exact List.lt_irrefl _ h2'
  · intro h
    rw [h]
    have h1 := swoA.irrefl (lstA y)
    unfold Ovi.cmpA
    rw [if_neg (by omega), if_neg (by omega)]
    have key : ∀ a : List Int, cmpL a a = 0 := by
      intro a
      induction a with
      | nil => rfl
      | cons z zs ih => unfold cmpL; rw [if_neg (by omega), if_neg (by omega)]; exact ih
    exact key _
end Go.Proofs

/-
For every chase result the law FnExactFormatResult returns true, and the argument reads afterwards as it read before; the tied card. No condition.
-/
import Derived.Test.YtekcjghbfbfmpaaDoorQa
import Derived.Lib.ItoaLen
import Derived.Test.YtekcjghbfbfmpaaDoorQb
import Derived.Test.YtekcjghbfbfmpaaDoorRows
import Derived.Test.YtekcjghbfbfmpaaDoorTie
import Derived.Test.YtekcjghbfbfmpaaDoorCards
import Derived.ProofKit
import Derived.LaidMore
import Derived.OpenShut
import Derived.Stop.Joined
import Derived.SevenTiedAt
set_option linter.unusedVariables false
set_option linter.unusedSimpArgs false
/-! DGa -/

namespace Go.Proofs.YtekcjghbfbfmpaaDoor.Q
open Go Ovi
/-- laws.szIntS -/
theorem c24 {k : Nat} (hk : 2000001 ≤ k) {a : Ovi.Rows} (ha : Fit (.list [.int .i64]) (.list 1 a)) {left : Int} (h0 : 0 ≤ left) (h1 : left ≤ 1048576) : C k 24 [.d (.list 1 a), .d (.int .i64 left)] = some [(false, [.d (.int .i64 (szT left (szD (.list 1 a))))])] := by
  obtain ⟨k, rfl⟩ : ∃ j, k = j + 1 := ⟨k - 1, by omega⟩
  have hlen := ha.len; unfold maxLen at hlen
  have hz : szR a = 0 := by
    clear hlen h0 h1
    induction a with
    | nil => rfl
    | cons r rs ih =>
      simp only [Fit, List.length_cons, List.mem_cons, forall_eq_or_imp] at ha
      obtain ⟨q1, q2, hfr, q4⟩ := ha
      obtain ⟨d0, rr0, rfl, hd0, hfr0⟩ := Fits.cons hfr
      obtain ⟨x0, rfl, wx0⟩ := hd0.int
      obtain rfl := Fits.nil hfr0
      simp only [szR, szC, szD]
      rw [ih (by simp only [Fit]; exact ⟨q1, by omega, q4⟩)]
  rw [F24.run, wrap_id (by omega) (by omega)]
  simp only [szD, hz, Nat.add_zero]
  rcases szT_cases left a.length with ⟨q, e⟩ | ⟨q, e⟩ <;> rw [e]
  · rw [ite'_f (neg_f (by omega))]
  · rw [ite'_t (by simp only [decide_eq_true_eq]; omega)]
/-- laws.toIntS -/
theorem l26 {k : Nat} (hk : 2000000 ≤ k) {a : Ovi.Rows} (ha : Fit (.list [.int .i64]) (.list 1 a)) (hs : szR a ≤ 1048576) : ∀ (m i n : Nat) (v : Ovi.Rows), Filled a v i 1 → i + m = a.length → m < n → F26.L3 k (C k) n a (i : Int) v = some [(false, [.row 3 1 a])] := by
  have hlen := ha.len
  intro m; induction m with
  | zero =>
    intro i n v hv hm hn
    obtain ⟨n, rfl⟩ : ∃ j, n = j + 1 := ⟨n - 1, by omega⟩
    obtain rfl : i = a.length := by omega
    rw [F26.L3.succ, ite'_f (lt_f (by omega)), hv.done]
  | succ m ih =>
    intro i n v hv hm hn
    obtain ⟨n, rfl⟩ : ∃ j, n = j + 1 := ⟨n - 1, by omega⟩
    obtain ⟨row, hr, hfr, hdr⟩ := ha.row (i := i) (by omega)
    obtain ⟨d0, rr0, rfl, hd0, hfr0⟩ := Fits.cons hfr
    obtain ⟨x0, rfl, wx0⟩ := hd0.int
    obtain rfl := Fits.nil hfr0
    have hst := hv.step hr rfl
    have hvl := hv.1
    have hszr := szR_at hr
    rw [F26.L3.succ, ite'_t (lt_t (by omega)), ite'_t (inR_t (by omega))]
    simp only [Int.toNat_natCast, cellI_at hr, cellB_at hr, cellS_at hr, cellL_at hr]
    simp only [List.getElem?_cons_zero, List.getElem?_cons_succ, Option.bind_some, asI_s, asB_s, asS_s, asL_s, bindI_s, bindB_s, bindS_s, bindL_s, bindR_s, resI_s, resB_s, resS_s, resO_s, bne_self_eq_false, beq_self_eq_true, Bool.not_true]
    rw [ite'_t (inR_t (by omega)), wrap_succ (m := a.length) (by omega) (by omega) hlen]
    rw [show ((i : Int) + 1) = ((i + 1 : Nat) : Int) by omega]
    exact ih (i + 1) n _ hst (by omega) (by omega)
theorem c26 {k : Nat} (hk : 2000001 ≤ k) {a : Ovi.Rows} (ha : Fit (.list [.int .i64]) (.list 1 a)) (hs : szD (.list 1 a) ≤ 1048576) : C k 26 [.d (.list 1 a)] = some [(false, [.row 3 1 a])] := by
  obtain ⟨k, rfl⟩ : ∃ j, k = j + 1 := ⟨k - 1, by omega⟩
  simp only [szD] at hs
  rw [F26.run, ite'_t (beq_t _), ite'_t (inM_t (by omega))]
  exact l26 (k := k) (by omega) ha (by omega) a.length 0 k _ (Filled.start a _) (by omega) (by omega)
/-- laws.eqIntS -/
theorem l29 {k : Nat} (hk : 2000000 ≤ k) {a : Ovi.Rows} (ha : Fit (.list [.int .i64]) (.list 1 a)) (hs : szR a ≤ 1048576) : ∀ (m i n : Nat), i + m = a.length → m < n → F29.L4 k (C k) n a a (i : Int) = some [(false, [.d (.bool true)])] := by
  have hlen := ha.len
  intro m; induction m with
  | zero =>
    intro i n hm hn
    obtain ⟨n, rfl⟩ : ∃ j, n = j + 1 := ⟨n - 1, by omega⟩
    rw [F29.L4.succ, ite'_f (lt_f (by omega))]
  | succ m ih =>
    intro i n hm hn
    obtain ⟨n, rfl⟩ : ∃ j, n = j + 1 := ⟨n - 1, by omega⟩
    obtain ⟨row, hr, hfr, hdr⟩ := ha.row (i := i) (by omega)
    obtain ⟨d0, rr0, rfl, hd0, hfr0⟩ := Fits.cons hfr
    obtain ⟨x0, rfl, wx0⟩ := hd0.int
    obtain rfl := Fits.nil hfr0
    have hszr := szR_at hr
    rw [F29.L4.succ, ite'_t (lt_t (by omega)), ite'_t (inR_t (by omega))]
    simp only [Int.toNat_natCast, cellI_at hr, cellB_at hr, cellS_at hr, cellL_at hr]
    simp only [List.getElem?_cons_zero, List.getElem?_cons_succ, Option.bind_some, asI_s, asB_s, asS_s, asL_s, bindI_s, bindB_s, bindS_s, bindL_s, bindR_s, resI_s, resB_s, resS_s, resO_s, bne_self_eq_false, beq_self_eq_true, Bool.not_true]
    rw [ite'_t (inR_t (by omega))]
    rw [ite'_f rfl, wrap_succ (m := a.length) (by omega) (by omega) hlen]
    rw [show ((i : Int) + 1) = ((i + 1 : Nat) : Int) by omega]
    exact ih (i + 1) n (by omega) (by omega)
theorem c29 {k : Nat} (hk : 2000001 ≤ k) {a : Ovi.Rows} (ha : Fit (.list [.int .i64]) (.list 1 a)) (hs : szD (.list 1 a) ≤ 1048576) : C k 29 [.d (.list 1 a), .d (.list 1 a)] = some [(false, [.d (.bool true)])] := by
  obtain ⟨k, rfl⟩ : ∃ j, k = j + 1 := ⟨k - 1, by omega⟩
  simp only [szD] at hs
  rw [F29.run, ite'_f (bne_f _)]
  exact l29 (k := k) (by omega) ha (by omega) a.length 0 k (by omega) (by omega)
/-- laws.szIntSS -/
theorem l6 {k : Nat} (hk : 2000001 ≤ k) {a : Ovi.Rows} (ha : Fit (.list [.list [.int .i64]]) (.list 1 a)) : ∀ (m i n : Nat) (left : Int), 0 ≤ left → left ≤ 1048576 → i + m = a.length → m < n → F6.L5 k (C k) n a left (i : Int) = some [(false, [.d (.int .i64 (szT left (szR (a.drop i))))])] := by
  have hlen := ha.len
  intro m; induction m with
  | zero =>
    intro i n left h0 h1 hm hn
    obtain ⟨n, rfl⟩ : ∃ j, n = j + 1 := ⟨n - 1, by omega⟩
    rw [F6.L5.succ, ite'_f (lt_f (by omega)), List.drop_eq_nil_of_le (by omega)]
    simp only [szR, szT_pos (left := left) (s := 0) (by omega)]
    simp
  | succ m ih =>
    intro i n left h0 h1 hm hn
    obtain ⟨n, rfl⟩ : ∃ j, n = j + 1 := ⟨n - 1, by omega⟩
    obtain ⟨row, hr, hfr, hdr⟩ := ha.row (i := i) (by omega)
    obtain ⟨d0, rr0, rfl, hd0, hfr0⟩ := Fits.cons hfr
    obtain ⟨x0, rfl, hx0⟩ := hd0.list (n := 1) rfl
    obtain rfl := Fits.nil hfr0
    have eR : szR (a.drop i) = szC [.list 1 x0] + szR (a.drop (i + 1)) := by rw [hdr]; rfl
    rw [F6.L5.succ, ite'_t (lt_t (by omega)), ite'_t (inR_t (by omega)), eR]
    simp only [Int.toNat_natCast, cellI_at hr, cellB_at hr, cellS_at hr, cellL_at hr]
    simp only [List.getElem?_cons_zero, List.getElem?_cons_succ, Option.bind_some, asI_s, asB_s, asS_s, asL_s, bindI_s, bindB_s, bindS_s, bindL_s, bindR_s, resI_s, resB_s, resS_s, resO_s, bne_self_eq_false, beq_self_eq_true, Bool.not_true]
    have cc := c24 (k := k) (by omega) hx0 h0 h1
    have eA : szD (.list 1 x0) = szC [.list 1 x0] := by simp only [szC, Nat.add_zero]
    rw [eA] at cc
    rw [cc]
    simp only [List.getElem?_cons_zero, List.getElem?_cons_succ, Option.bind_some, asI_s, asB_s, asS_s, asL_s, bindI_s, bindB_s, bindS_s, bindL_s, bindR_s, resI_s, resB_s, resS_s, resO_s, bne_self_eq_false, beq_self_eq_true, Bool.not_true]
    rcases szT_cases left (szC [.list 1 x0]) with ⟨q, e⟩ | ⟨q, e⟩ <;> rw [e]
    · rw [ite'_f (neg_f (by omega)), wrap_succ (m := a.length) (by omega) (by omega) hlen]
      have := ih (i + 1) n (left - ((szC [.list 1 x0] : Nat) : Int)) (by omega) (by omega) (by omega) (by omega)
      rw [show ((i : Int) + 1) = ((i + 1 : Nat) : Int) by omega, this]
      rcases szT_cases (left - ((szC [.list 1 x0] : Nat) : Int)) (szR (a.drop (i + 1))) with ⟨q2, e2⟩ | ⟨q2, e2⟩ <;> rw [e2]
      · rw [szT_pos (by omega)] <;> (congr 6 <;> omega)
      · rw [szT_neg (by omega)]
    · rw [ite'_t neg_t, szT_neg (by omega)]
theorem c6 {k : Nat} (hk : 2000002 ≤ k) {a : Ovi.Rows} (ha : Fit (.list [.list [.int .i64]]) (.list 1 a)) {left : Int} (h0 : 0 ≤ left) (h1 : left ≤ 1048576) : C k 6 [.d (.list 1 a), .d (.int .i64 left)] = some [(false, [.d (.int .i64 (szT left (szD (.list 1 a))))])] := by
  obtain ⟨k, rfl⟩ : ∃ j, k = j + 1 := ⟨k - 1, by omega⟩
  have hlen := ha.len; unfold maxLen at hlen
  rw [F6.run, wrap_id (by omega) (by omega)]
  have eD : szD (.list 1 a) = a.length + szR a := by simp only [szD]
  rw [eD]
  rcases szT_cases left a.length with ⟨q, e⟩ | ⟨q, e⟩
  · rw [ite'_f (neg_f (by omega))]
    have := l6 (k := k) (by omega) ha a.length 0 k (left - (a.length : Int)) (by omega) (by omega) (by omega) (by omega)
    rw [List.drop_zero] at this
    rw [show ((0 : Int)) = ((0 : Nat) : Int) by rfl, this]
    rcases szT_cases (left - (a.length : Int)) (szR a) with ⟨q2, e2⟩ | ⟨q2, e2⟩ <;> rw [e2]
    · rw [szT_pos (by omega)] <;> (congr 6 <;> omega)
    · rw [szT_neg (by omega)]
  · rw [ite'_t (by simp only [decide_eq_true_eq]; omega), szT_neg (by omega)]
/-- laws.toIntSS -/
theorem l8 {k : Nat} (hk : 2000001 ≤ k) {a : Ovi.Rows} (ha : Fit (.list [.list [.int .i64]]) (.list 1 a)) (hs : szR a ≤ 1048576) : ∀ (m i n : Nat) (v : Ovi.Rows), Filled a v i 1 → i + m = a.length → m < n → F8.L3 k (C k) n a (i : Int) v = some [(false, [.row 47 1 a])] := by
  have hlen := ha.len
  intro m; induction m with
  | zero =>
    intro i n v hv hm hn
    obtain ⟨n, rfl⟩ : ∃ j, n = j + 1 := ⟨n - 1, by omega⟩
    obtain rfl : i = a.length := by omega
    rw [F8.L3.succ, ite'_f (lt_f (by omega)), hv.done]
  | succ m ih =>
    intro i n v hv hm hn
    obtain ⟨n, rfl⟩ : ∃ j, n = j + 1 := ⟨n - 1, by omega⟩
    obtain ⟨row, hr, hfr, hdr⟩ := ha.row (i := i) (by omega)
    obtain ⟨d0, rr0, rfl, hd0, hfr0⟩ := Fits.cons hfr
    obtain ⟨x0, rfl, hx0⟩ := hd0.list (n := 1) rfl
    obtain rfl := Fits.nil hfr0
    have hst := hv.step hr rfl
    have hvl := hv.1
    have hszr := szR_at hr
    rw [F8.L3.succ, ite'_t (lt_t (by omega)), ite'_t (inR_t (by omega))]
    simp only [Int.toNat_natCast, cellI_at hr, cellB_at hr, cellS_at hr, cellL_at hr]
    simp only [List.getElem?_cons_zero, List.getElem?_cons_succ, Option.bind_some, asI_s, asB_s, asS_s, asL_s, bindI_s, bindB_s, bindS_s, bindL_s, bindR_s, resI_s, resB_s, resS_s, resO_s, bne_self_eq_false, beq_self_eq_true, Bool.not_true]
    rw [c26 (k := k) (by omega)  hx0 (by simp only [szC, szD] at hszr ⊢; omega)]
    simp only [List.getElem?_cons_zero, List.getElem?_cons_succ, Option.bind_some, asI_s, asB_s, asS_s, asL_s, bindI_s, bindB_s, bindS_s, bindL_s, bindR_s, resI_s, resB_s, resS_s, resO_s, bne_self_eq_false, beq_self_eq_true, Bool.not_true]
    rw [ite'_t (inR_t (by omega)), wrap_succ (m := a.length) (by omega) (by omega) hlen]
    rw [show ((i : Int) + 1) = ((i + 1 : Nat) : Int) by omega]
    exact ih (i + 1) n _ hst (by omega) (by omega)
theorem c8 {k : Nat} (hk : 2000002 ≤ k) {a : Ovi.Rows} (ha : Fit (.list [.list [.int .i64]]) (.list 1 a)) (hs : szD (.list 1 a) ≤ 1048576) : C k 8 [.d (.list 1 a)] = some [(false, [.row 47 1 a])] := by
  obtain ⟨k, rfl⟩ : ∃ j, k = j + 1 := ⟨k - 1, by omega⟩
  simp only [szD] at hs
  rw [F8.run, ite'_t (beq_t _), ite'_t (inM_t (by omega))]
  exact l8 (k := k) (by omega) ha (by omega) a.length 0 k _ (Filled.start a _) (by omega) (by omega)
/-- laws.eqIntSS -/
theorem l10 {k : Nat} (hk : 2000001 ≤ k) {a : Ovi.Rows} (ha : Fit (.list [.list [.int .i64]]) (.list 1 a)) (hs : szR a ≤ 1048576) : ∀ (m i n : Nat), i + m = a.length → m < n → F10.L4 k (C k) n a a (i : Int) = some [(false, [.d (.bool true)])] := by
  have hlen := ha.len
  intro m; induction m with
  | zero =>
    intro i n hm hn
    obtain ⟨n, rfl⟩ : ∃ j, n = j + 1 := ⟨n - 1, by omega⟩
    rw [F10.L4.succ, ite'_f (lt_f (by omega))]
  | succ m ih =>
    intro i n hm hn
    obtain ⟨n, rfl⟩ : ∃ j, n = j + 1 := ⟨n - 1, by omega⟩
    obtain ⟨row, hr, hfr, hdr⟩ := ha.row (i := i) (by omega)
    obtain ⟨d0, rr0, rfl, hd0, hfr0⟩ := Fits.cons hfr
    obtain ⟨x0, rfl, hx0⟩ := hd0.list (n := 1) rfl
    obtain rfl := Fits.nil hfr0
    have hszr := szR_at hr
    rw [F10.L4.succ, ite'_t (lt_t (by omega)), ite'_t (inR_t (by omega))]
    simp only [Int.toNat_natCast, cellI_at hr, cellB_at hr, cellS_at hr, cellL_at hr]
    simp only [List.getElem?_cons_zero, List.getElem?_cons_succ, Option.bind_some, asI_s, asB_s, asS_s, asL_s, bindI_s, bindB_s, bindS_s, bindL_s, bindR_s, resI_s, resB_s, resS_s, resO_s, bne_self_eq_false, beq_self_eq_true, Bool.not_true]
    rw [ite'_t (inR_t (by omega))]
    rw [c29 (k := k) (by omega)  hx0 (by simp only [szC, szD] at hszr ⊢; omega)]
    simp only [List.getElem?_cons_zero, List.getElem?_cons_succ, Option.bind_some, asI_s, asB_s, asS_s, asL_s, bindI_s, bindB_s, bindS_s, bindL_s, bindR_s, resI_s, resB_s, resS_s, resO_s, bne_self_eq_false, beq_self_eq_true, Bool.not_true]
    rw [ite'_f rfl, wrap_succ (m := a.length) (by omega) (by omega) hlen]
    rw [show ((i : Int) + 1) = ((i + 1 : Nat) : Int) by omega]
    exact ih (i + 1) n (by omega) (by omega)
theorem c10 {k : Nat} (hk : 2000002 ≤ k) {a : Ovi.Rows} (ha : Fit (.list [.list [.int .i64]]) (.list 1 a)) (hs : szD (.list 1 a) ≤ 1048576) : C k 10 [.d (.list 1 a), .d (.list 1 a)] = some [(false, [.d (.bool true)])] := by
  obtain ⟨k, rfl⟩ : ∃ j, k = j + 1 := ⟨k - 1, by omega⟩
  simp only [szD] at hs
  rw [F10.run, ite'_f (bne_f _)]
  exact l10 (k := k) (by omega) ha (by omega) a.length 0 k (by omega) (by omega)
end Go.Proofs.YtekcjghbfbfmpaaDoor.Q

/-! DHa -/
namespace Go.Proofs.YtekcjghbfbfmpaaDoor.Q
open Go Ovi
/-! ### numbers as texts -/
def dd (u : Nat) : List UInt8 := if u = 0 then [] else Lib.decDigits u
theorem dd_step {u : Nat} (h : 0 < u) : dd u = dd (u / 10) ++ [UInt8.ofNat (48 + u % 10)] := by
  unfold dd
  rw [if_neg (by omega)]
  by_cases h1 : u < 10
  · rw [if_pos (by omega), Lib.decDigits, dif_pos h1, Nat.mod_eq_of_lt h1]
    rfl
  · rw [if_neg (by omega), Lib.decDigits, dif_neg h1]
theorem dd_len {u : Nat} (h : u < 18446744073709551616) : (dd u).length ≤ 20 := by
  unfold dd
  split
  · simp
  · rw [Lib.decDigits_length]; exact Lib.nDigits_le20 u h
theorem byte_one {r : Nat} (h : r < 10) : bytesD [[D.int IntKind.u8 (IntKind.u8.wrap (IntKind.i64.wrap ((48 : Int) + (r : Int))))]] = some [UInt8.ofNat (48 + r)] := by
  have e1 : IntKind.i64.wrap ((48 : Int) + (r : Int)) = 48 + r := wrap_id (by omega) (by omega)
  have e2 : IntKind.u8.wrap ((48 : Int) + (r : Int)) = 48 + r := by rw [IntKind.wrap_u8]; omega
  have e3 : decide (0 ≤ (48 : Int) + (r : Int) ∧ (48 : Int) + (r : Int) < 256) = true := by simp only [decide_eq_true_eq]; omega
  have e4 : ((48 : Int) + (r : Int)).toNat = 48 + r := by omega
  rw [e1, e2]
  simp only [bytesD, e3, e4]
/-- spec.FormatInt's loop -/
theorem l53 {k : Nat} (call : CallF) (neg : Bool) : ∀ (m n : Nat) (z : Int) (acc : List UInt8), z.natAbs < 10 ^ m → z.natAbs < 18446744073709551616 → m < n → acc.length + (dd z.natAbs).length ≤ 1000 →
    F53.L5 k call n z acc neg = some [(false, [.d (.str (cond neg (45 :: (dd z.natAbs ++ acc)) (dd z.natAbs ++ acc)))])] := by
  have fin : ∀ (n : Nat) (acc : List UInt8), acc.length ≤ 1000 → F53.L5 k call (n + 1) 0 acc neg = some [(false, [.d (.str (cond neg (45 :: acc) acc))])] := by
    intro n acc hl
    rw [F53.L5.succ, ite'_f (by simp), fits_t (by omega)]
    cases neg <;> rfl
  intro m
  induction m with
  | zero =>
    intro n z acc h1 h2 hn hl
    obtain ⟨n, rfl⟩ : ∃ j, n = j + 1 := ⟨n - 1, by omega⟩
    obtain rfl : z = 0 := by omega
    rw [fin n acc (by omega)]
    rfl
  | succ m ih =>
    intro n z acc h1 h2 hn hl
    obtain ⟨n, rfl⟩ : ∃ j, n = j + 1 := ⟨n - 1, by omega⟩
    by_cases hz : z = 0
    · subst hz
      rw [fin n acc (by omega)]
      rfl
    · have hq : (z.tdiv 10).natAbs = z.natAbs / 10 := by rw [Int.natAbs_tdiv]; rfl
      have hm : (z.tmod 10).natAbs = z.natAbs % 10 := by rw [Int.natAbs_tmod]; rfl
      have hdd := dd_step (u := z.natAbs) (by omega)
      have hp : z.natAbs / 10 < 10 ^ m := by
        rw [Nat.pow_succ] at h1
        omega
      have hlen : (dd z.natAbs).length = (dd (z.natAbs / 10)).length + 1 := by rw [hdd]; simp
      have hw : IntKind.i64.wrap (z.tdiv 10) = z.tdiv 10 := wrap_id (by omega) (by omega)
      have hfit : fits (([UInt8.ofNat (48 + z.natAbs % 10)] : List UInt8).length + acc.length) = true := fits_t (by simp; omega)
      have go : F53.L5 k call n (z.tdiv 10) ([UInt8.ofNat (48 + z.natAbs % 10)] ++ acc) neg = some [(false, [.d (.str (cond neg (45 :: (dd z.natAbs ++ acc)) (dd z.natAbs ++ acc)))])] := by
        rw [ih n (z.tdiv 10) _ (by rw [hq]; exact hp) (by rw [hq]; omega) (by omega) (by rw [hq]; simp; omega), hq, hdd]
        simp
      rw [F53.L5.succ, ite'_t (by simpa using hz)]
      by_cases hneg : z.tmod 10 < 0
      · have e0 : (0 : Int) - z.tmod 10 = ((z.natAbs % 10 : Nat) : Int) := by omega
        have e9 : IntKind.i64.wrap ((z.natAbs % 10 : Nat) : Int) = ((z.natAbs % 10 : Nat) : Int) := wrap_id (by omega) (by omega)
        rw [ite'_t (by simpa using hneg), e0, e9, byte_one (Nat.mod_lt _ (by omega)), bindS_s, ite'_t hfit, hw]
        exact go
      · have e0 : z.tmod 10 = ((z.natAbs % 10 : Nat) : Int) := by omega
        rw [ite'_f (by simpa using hneg), e0, byte_one (Nat.mod_lt _ (by omega)), bindS_s, ite'_t hfit, hw]
        exact go
theorem c53 {k : Nat} (hk : 40 ≤ k) {z : Int} (hz : inI z) : C k 53 [.d (.int .i64 z)] = some [(false, [.d (.str (Lib.itoa z))])] := by
  obtain ⟨k, rfl⟩ : ∃ j, k = j + 1 := ⟨k - 1, by omega⟩
  unfold inI at hz
  rw [F53.run]
  by_cases h : z = 0
  · subst h
    rw [ite'_t (by simp)]
    have : Lib.itoa 0 = [48] := by
      unfold Lib.itoa
      rw [if_neg (by omega), Lib.decDigits, dif_pos (by decide)]
      rfl
    rw [this]
  · rw [ite'_f (by simpa using h), l53 (C k) _ 20 k z [] (by omega) (by omega) (by omega) (by have := dd_len (u := z.natAbs) (by omega); simp; omega)]
    have hne : ¬ z.natAbs = 0 := by omega
    unfold Lib.itoa dd
    by_cases hneg : z < 0
    · simp only [hneg, decide_true, cond_true, if_neg hne, List.append_nil, if_true]
    · have : z.toNat = z.natAbs := by omega
      simp only [hneg, decide_false, cond_false, if_neg hne, List.append_nil, if_false, this]
/-! ### values as texts -/
def fv (z : Int) : List UInt8 := if -40 ≤ z ∧ z < 0 then 110 :: Lib.decDigits (-1 - z).toNat else if 0 ≤ z ∧ z ≤ 9 then Lib.decDigits z.toNat else []
theorem dig_len {u : Nat} (h : u < 100) : (Lib.decDigits u).length ≤ 2 := by
  rw [Lib.decDigits]
  split
  · simp
  · rw [Lib.decDigits, dif_pos (by omega)]; simp
theorem fv_len (z : Int) : (fv z).length ≤ 3 := by
  unfold fv
  split
  · have := dig_len (u := (-1 - z).toNat) (by omega); simp; omega
  · split
    · have := dig_len (u := z.toNat) (by omega); omega
    · simp
theorem itoa_nn {z : Int} (h : 0 ≤ z) : Lib.itoa z = Lib.decDigits z.toNat := by unfold Lib.itoa; rw [if_neg (by omega)]
theorem c52 {k : Nat} (hk : 2 ≤ k) {z : Int} (hz : inI z) : C k 52 [.d (.int .i64 z)] = some (if -40 ≤ z ∧ z < 0 then [(false, [.d (.int .i64 (-1 - z))]), (false, [.d (.bool true)])] else [(false, [.d (.int .i64 0)]), (false, [.d (.bool false)])]) := by
  obtain ⟨k, rfl⟩ : ∃ j, k = j + 2 := ⟨k - 2, by omega⟩
  unfold inI at hz
  rw [F52.run]
  by_cases h0 : z ≥ 0
  · rw [ite'_t (by simpa using h0), if_neg (by omega)]
  · rw [ite'_f (by simpa using h0), wrap_id (by omega) (by omega), F54.run, ite'_t (by simp only [decide_eq_true_eq]; omega), bindR_s, resB_s, bindB_s]
    by_cases h1 : -1 - z ≤ 39
    · rw [ite'_f (by simpa using h1), if_pos (by omega)]
    · rw [ite'_t (by simpa using h1), if_neg (by omega)]
theorem c25 {k : Nat} (hk : 100 ≤ k) {z : Int} (hz : inI z) : C k 25 [.d (.int .i64 z)] = some [(false, [.d (.str (fv z))])] := by
  obtain ⟨k, rfl⟩ : ∃ j, k = j + 1 := ⟨k - 1, by omega⟩
  have hz' := hz
  unfold inI at hz
  rw [F25.run, c52 (by omega) hz', bindR_s]
  unfold fv
  by_cases h : -40 ≤ z ∧ z < 0
  · rw [if_pos h, if_pos h]
    have r1 : resI .i64 2 false 1 [(false, [.d (.int .i64 (-1 - z))]), (false, [.d (.bool true)])] 0 0 = some (-1 - z) := by simp [resI, leafD, D.asI]
    have r2 : resB 2 false 1 [(false, [.d (.int .i64 (-1 - z))]), (false, [.d (.bool true)])] 1 0 = some true := rfl
    rw [r1, r2, bindI_s, bindB_s, ite'_t rfl, c53 (by omega) (by unfold inI; omega), bindR_s, resS_s, bindS_s, itoa_nn (by omega)]
    have := dig_len (u := (-1 - z).toNat) (by omega)
    rw [ite'_t (fits_t (by omega))]
  · rw [if_neg h, if_neg h]
    have r1 : resI .i64 2 false 1 [(false, [.d (.int .i64 0)]), (false, [.d (.bool false)])] 0 0 = some 0 := by simp [resI, leafD, D.asI]
    have r2 : resB 2 false 1 [(false, [.d (.int .i64 0)]), (false, [.d (.bool false)])] 1 0 = some false := rfl
    obtain ⟨k, rfl⟩ : ∃ j, k = j + 1 := ⟨k - 1, by omega⟩
    rw [r1, r2, bindI_s, bindB_s, ite'_f rfl, F54.run]
    by_cases h1 : z ≥ 0
    · rw [ite'_t (by simpa using h1), bindR_s, resB_s, bindB_s]
      by_cases h2 : z ≤ 9
      · rw [ite'_f (by simpa using h2), if_pos (by omega), c53 (by omega) hz', bindR_s, resS_s, bindS_s, itoa_nn (by omega)]
      · rw [ite'_t (by simpa using h2), if_neg (by omega)]
    · rw [ite'_f (by simpa using h1), bindR_s, resB_s, bindB_s, ite'_nf, if_neg (by omega)]
theorem c81i (k : Nat) {n : Int} (h : inI n) : C (k + 1) 81 [.d (.int .i64 n)] = some [(false, [.d (.str (Lib.itoa n))])] := by
  have : C (k + 1) 81 [.d (.int .i64 n)] = itoaQ [.d (.int .i64 n)] := by kernel_rfl
  rw [this]
  have hd : decide (-9223372036854775808 ≤ n ∧ n ≤ 9223372036854775807) = true := by simp only [decide_eq_true_eq]; exact h
  simp only [itoaQ, hd, cond_true]
theorem c81 (k : Nat) {n : Int} (h0 : 0 ≤ n) (h1 : n < 100) : C (k + 1) 81 [.d (.int .i64 n)] = some [(false, [.d (.str (Lib.decDigits n.toNat))])] := by
  rw [c81i k (by unfold inI; omega), itoa_nn h0]
theorem c57i {k : Nat} (hk : 2 ≤ k) {n : Int} (h : inI n) : C k 57 [.d (.int .i64 n)] = some [(false, [.d (.str (Lib.itoa n))])] := by
  obtain ⟨k, rfl⟩ : ∃ j, k = j + 2 := ⟨k - 2, by omega⟩
  rw [F57.run, c81i k h, bindR_s, resS_s, bindS_s]
theorem c57 {k : Nat} (hk : 2 ≤ k) {n : Int} (h0 : 0 ≤ n) (h1 : n < 100) : C k 57 [.d (.int .i64 n)] = some [(false, [.d (.str (Lib.decDigits n.toNat))])] := by
  obtain ⟨k, rfl⟩ : ∃ j, k = j + 2 := ⟨k - 2, by omega⟩
  rw [F57.run, c81 k h0 h1, bindR_s, resS_s, bindS_s]
theorem c27 {k : Nat} (hk : 100 ≤ k) {z : Int} (hz : inI z) : C k 27 [.d (.int .i64 z)] = some [(false, [.d (.str (fv z))])] := by
  obtain ⟨k, rfl⟩ : ∃ j, k = j + 3 := ⟨k - 3, by omega⟩
  have hz' := hz
  unfold inI at hz
  rw [F27.run, F55.run, F78.run, F56.run]
  unfold fv
  by_cases h1 : (-40 : Int) ≤ z
  · rw [ite'_t (by simpa using h1), bindR_s, resB_s, bindB_s, bindR_s, resB_s, bindB_s]
    by_cases h2 : z ≤ 9
    · rw [ite'_f (by simpa using h2), bindR_s, resB_s, bindB_s]
      by_cases h3 : z < 0
      · rw [ite'_t (by simpa using h3), wrap_id (by omega) (by omega), c57 (by omega) (by omega) (by omega), bindR_s, resS_s, bindS_s, if_pos (by omega)]
        have := dig_len (u := ((-1 : Int) - z).toNat) (by omega)
        rw [ite'_t (fits_t (by omega))]
      · rw [ite'_f (by simpa using h3), c57 (by omega) (by omega) (by omega), bindR_s, resS_s, bindS_s, if_neg (by omega), if_pos (by omega)]
    · rw [ite'_t (by simpa using h2), if_neg (by omega), if_neg (by omega)]
  · rw [ite'_f (by simpa using h1), bindR_s, resB_s, bindB_s, bindR_s, resB_s, bindB_s, ite'_nf, if_neg (by omega), if_neg (by omega)]
end Go.Proofs.YtekcjghbfbfmpaaDoor.Q

/-! DIa -/
namespace Go.Proofs.YtekcjghbfbfmpaaDoor.Q
open Go Ovi
/-! ### rows as texts -/
/-- what is to come behind the first elements -/
def rest (xs : List (List UInt8)) (sep : List UInt8) (j : Nat) : List UInt8 := if j = 0 then Lib.join xs sep else Lib.joinTail sep (xs.drop j)
theorem rest_zero (xs : List (List UInt8)) (sep : List UInt8) : rest xs sep 0 = Lib.join xs sep := rfl
theorem rest_end {xs : List (List UInt8)} {sep : List UInt8} : rest xs sep xs.length = [] := by
  unfold rest
  split
  · rename_i h; rw [List.eq_nil_of_length_eq_zero h]; rfl
  · rw [List.drop_length]; rfl
theorem rest_first {xs : List (List UInt8)} {sep x : List UInt8} (h : xs[0]? = some x) : rest xs sep 0 = x ++ rest xs sep 1 := by
  cases xs with
  | nil => cases h
  | cons y r =>
    cases h
    simp only [rest, if_true, Lib.join_cons]
    rfl
theorem rest_next {xs : List (List UInt8)} {sep x : List UInt8} {j : Nat} (hj : 0 < j) (h : xs[j]? = some x) : rest xs sep j = sep ++ x ++ rest xs sep (j + 1) := by
  obtain ⟨hlt, rfl⟩ := List.getElem?_eq_some_iff.1 h
  unfold rest
  rw [if_neg (by omega), if_neg (by omega)]
  unfold Lib.joinTail
  rw [List.drop_eq_getElem_cons hlt, List.map_cons, List.flatten_cons]
def rowT (zs : List Int) : List UInt8 := [40] ++ Lib.join (zs.map fv) [44] ++ [41]
def rowsT (rs : List (List Int)) : List UInt8 := Lib.join (rs.map rowT) [32]
def II (rs : List (List Int)) : Ovi.Rows := rs.map fun zs => [.list 1 (I1 zs)]
theorem II_get {rs : List (List Int)} {i : Nat} {zs : List Int} (h : rs[i]? = some zs) : (II rs)[i]? = some [.list 1 (I1 zs)] := by simp [II, h]
theorem II_len (rs : List (List Int)) : (II rs).length = rs.length := by simp [II]
theorem Fit.intss {a : Ovi.Rows} (h : Fit (.list [.list [.int .i64]]) (.list 1 a)) : ∃ rs : List (List Int), a = II rs ∧ ∀ zs ∈ rs, ∀ z ∈ zs, inI z := by
  simp only [Fit] at h
  replace h := h.2.2
  induction a with
  | nil => exact ⟨[], rfl, by simp⟩
  | cons r rs ih =>
    obtain ⟨d, r', rfl, hd, hr⟩ := Fits.cons (h r List.mem_cons_self)
    obtain rfl := Fits.nil hr
    obtain ⟨l, rfl, hl⟩ := hd.list (n := 1) rfl
    obtain ⟨zs, rfl, hzs⟩ := hl.ints'
    obtain ⟨xs, e, hxs⟩ := ih (fun x hx => h x (List.mem_cons_of_mem _ hx))
    exact ⟨zs :: xs, by rw [e]; rfl, fun x hx => by
      rcases List.mem_cons.1 hx with rfl | hx
      · exact hzs
      · exact hxs x hx⟩
theorem join_len (xs : List (List UInt8)) (sep : List UInt8) (c : Nat) (h : ∀ x ∈ xs, x.length + sep.length ≤ c) : (Lib.join xs sep).length ≤ c * xs.length := by
  cases xs with
  | nil => simp [Lib.join_nil]
  | cons x r =>
    rw [Lib.join_cons, List.length_append]
    have h0 := h x List.mem_cons_self
    have : (Lib.joinTail sep r).length ≤ c * r.length := by
      have hr : ∀ y ∈ r, y.length + sep.length ≤ c := fun y hy => h y (List.mem_cons_of_mem _ hy)
      clear h
      induction r with
      | nil => simp [Lib.joinTail]
      | cons y r ih =>
        have h1 := hr y List.mem_cons_self
        have h2 := ih (fun z hz => hr z (List.mem_cons_of_mem _ hz))
        simp only [Lib.joinTail, List.map_cons, List.flatten_cons, List.length_append, List.length_cons] at h2 ⊢
        rw [Nat.mul_succ]
        omega
    rw [List.length_cons, Nat.mul_succ]
    omega
theorem rowT_len (zs : List Int) : (rowT zs).length ≤ 4 * zs.length + 2 := by
  have := join_len (zs.map fv) [44] 4 (fun x hx => by
    obtain ⟨z, _, rfl⟩ := List.mem_map.1 hx
    have := fv_len z
    simp; omega)
  simp only [rowT, List.length_append, List.length_cons, List.length_nil, List.length_map] at this ⊢
  omega
theorem szR_II (rs : List (List Int)) : szR (II rs) = (rs.map List.length).sum := by
  induction rs with
  | nil => rfl
  | cons zs rs ih =>
    show szC [.list 1 (I1 zs)] + szR (II rs) = _
    rw [ih]
    simp [szC, szD, szR_I1, I1_len]
theorem rowsT_len {rs : List (List Int)} {B : Nat} (h : szD (.list 1 (II rs)) ≤ B) : (rowsT rs).length ≤ 4 * B := by
  rw [szD, szR_II, II_len] at h
  have key : ∀ rs : List (List Int), (Lib.joinTail [32] (rs.map rowT)).length ≤ 4 * (rs.length + (rs.map List.length).sum) := by
    intro rs
    induction rs with
    | nil => simp [Lib.joinTail]
    | cons zs rs ih =>
      have := rowT_len zs
      simp only [Lib.joinTail, List.map_cons, List.flatten_cons, List.length_append, List.length_cons, List.length_nil, List.sum_cons] at ih ⊢
      omega
  unfold rowsT
  cases rs with
  | nil => simp [Lib.join_nil]
  | cons zs rs =>
    rw [List.map_cons, Lib.join_cons, List.length_append]
    have h1 := key rs
    have h2 := rowT_len zs
    simp only [List.length_cons, List.map_cons, List.sum_cons] at h ⊢
    omega
/-! ### spec.FormatRows -/
section
variable {k : Nat} (hk : 100 ≤ k) {rs : List (List Int)} (hrs : ∀ zs ∈ rs, ∀ z ∈ zs, inI z) (hn : rs.length ≤ 1048576) (hb : (rowsT rs).length ≤ 4194304)
include hk hrs hn
theorem l7b {i : Nat} {zs : List Int} (hi : rs[i]? = some zs) (hz : zs.length ≤ 1048576) (k3 : Nat) : ∀ (m j n : Nat) (acc : List UInt8), j + m = zs.length → m < n → (acc ++ rest (zs.map fv) [44] j ++ [41]).length ≤ 4194304 →
    F7.L9 k (C k) k3 n (II rs) acc i j = F7.L3 k (C k) k3 (II rs) (acc ++ rest (zs.map fv) [44] j ++ [41]) ((i + 1 : Nat) : Int) := by
  have hil := (List.getElem?_eq_some_iff.1 hi).1
  have hi1 : inR (i : Int) (List.length (II rs)) = true := inR_t (by rw [II_len]; exact hil)
  have hc : cellL 1 (II rs) (i : Int).toNat 0 = some (I1 zs) := by
    rw [Int.toNat_natCast, cellL_at (II_get hi)]
    simp [asL_s]
  intro m
  induction m with
  | zero =>
    intro j n acc hm hn' hl
    obtain ⟨n, rfl⟩ : ∃ q, n = q + 1 := ⟨n - 1, by omega⟩
    obtain rfl : j = zs.length := by omega
    have he : rest (zs.map fv) [44] zs.length = [] := by have := rest_end (xs := zs.map fv) (sep := [44]); rwa [List.length_map] at this
    rw [he, List.append_nil] at hl ⊢
    rw [F7.L9.succ, ite'_t hi1, hc, bindL_s, I1_len, ite'_f (lt_f (by omega)), ite'_t (fits_t (by simp at hl; omega))]
    rw [wrap_succ (m := rs.length) (by omega) (by omega) (by unfold maxLen; omega)]
    rfl
  | succ m ih =>
    intro j n acc hm hn' hl
    obtain ⟨n, rfl⟩ : ∃ q, n = q + 1 := ⟨n - 1, by omega⟩
    have hj : j < zs.length := by omega
    have hg := List.getElem?_eq_getElem hj
    have hgz : inI zs[j] := hrs zs (List.mem_of_getElem? hi) _ (List.getElem_mem hj)
    have hgf : (zs.map fv)[j]? = some (fv zs[j]) := by simp [hg]
    have hj1 : inR (j : Int) (List.length (I1 zs)) = true := inR_t (by rw [I1_len]; exact hj)
    have hcI : cellI .i64 (I1 zs) (j : Int).toNat 0 = some zs[j] := by
      rw [Int.toNat_natCast, cellI_at (I1_get' hg)]
      simp [asI_s]
    have hw : IntKind.i64.wrap ((j : Int) + 1) = ((j + 1 : Nat) : Int) := next_i hj (by unfold maxLen; omega)
    rw [F7.L9.succ, ite'_t hi1, hc, bindL_s, I1_len, ite'_t (lt_t hj)]
    by_cases h0 : j = 0
    · subst h0
      rw [rest_first hgf] at hl ⊢
      have hl' : (acc ++ fv zs[0]).length ≤ 4194304 := by simp only [List.length_append] at hl ⊢; omega
      rw [ite'_f (by simp), ite'_t hi1, bindL_s, ite'_t hj1, hcI, bindI_s, c25 hk hgz, bindR_s, resS_s, bindS_s, ite'_t (fits_t (by simp only [List.length_append] at hl'; omega)), hw]
      rw [ih 1 n (acc ++ fv zs[0]) (by omega) (by omega) (by rw [List.append_assoc acc]; exact hl), ← List.append_assoc acc]
    · rw [rest_next (by omega) hgf] at hl ⊢
      have hl' : (acc ++ [44] ++ fv zs[j]).length ≤ 4194304 := by simp only [List.length_append] at hl ⊢; omega
      rw [ite'_t (by simp only [decide_eq_true_eq]; omega), ite'_t (fits_t (by simp at hl'; omega)), ite'_t hi1, bindL_s, ite'_t hj1, hcI, bindI_s, c25 hk hgz, bindR_s, resS_s, bindS_s, ite'_t (fits_t (by simp only [List.length_append] at hl' ⊢; omega)), hw]
      rw [ih (j + 1) n (acc ++ [44] ++ fv zs[j]) (by omega) (by omega) (by simpa only [List.append_assoc] using hl)]
      simp only [List.append_assoc]
theorem l7a (hz : ∀ zs ∈ rs, zs.length ≤ 1048576) (hkk : 2000000 ≤ k) : ∀ (m i n : Nat) (acc : List UInt8), i + m = rs.length → m < n → (acc ++ rest (rs.map rowT) [32] i).length ≤ 4194304 →
    F7.L3 k (C k) n (II rs) acc i = some [(false, [.d (.str (acc ++ rest (rs.map rowT) [32] i))])] := by
  intro m
  induction m with
  | zero =>
    intro i n acc hm hn' hl
    obtain ⟨n, rfl⟩ : ∃ q, n = q + 1 := ⟨n - 1, by omega⟩
    obtain rfl : i = rs.length := by omega
    have he : rest (rs.map rowT) [32] rs.length = [] := by have := rest_end (xs := rs.map rowT) (sep := [32]); rwa [List.length_map] at this
    rw [he, F7.L3.succ, II_len, ite'_f (lt_f (by omega)), List.append_nil]
  | succ m ih =>
    intro i n acc hm hn' hl
    obtain ⟨n, rfl⟩ : ∃ q, n = q + 1 := ⟨n - 1, by omega⟩
    have hi : i < rs.length := by omega
    have hg := List.getElem?_eq_getElem hi
    have hgf : (rs.map rowT)[i]? = some (rowT rs[i]) := by simp [hg]
    have hzi := hz _ (List.getElem_mem hi)
    rw [F7.L3.succ, II_len, ite'_t (lt_t hi)]
    by_cases h0 : i = 0
    · subst h0
      rw [rest_first hgf] at hl ⊢
      have hl' : (acc ++ rowT rs[0]).length ≤ 4194304 := by simp only [List.length_append] at hl ⊢; omega
      have e : acc ++ ([40] : List UInt8) ++ rest (rs[0].map fv) [44] 0 ++ ([41] : List UInt8) = acc ++ rowT rs[0] := by simp [rowT, rest_zero]
      have h1 : (acc ++ ([40] : List UInt8) ++ rest (rs[0].map fv) [44] 0 ++ ([41] : List UInt8)).length ≤ 4194304 := by rw [e]; exact hl'
      rw [ite'_f (by simp), ite'_t (fits_t (by simp at h1; omega))]
      rw [show ((0 : Int)) = ((0 : Nat) : Int) from rfl, l7b hk hrs hn hg hzi n rs[0].length 0 k (acc ++ [40]) (by omega) (by omega) h1, e]
      rw [ih 1 n _ (by omega) (by omega) (by rw [List.append_assoc]; exact hl), List.append_assoc]
    · rw [rest_next (by omega) hgf] at hl ⊢
      have hl' : (acc ++ [32] ++ rowT rs[i]).length ≤ 4194304 := by simp only [List.length_append] at hl ⊢; omega
      have e : acc ++ [32] ++ [40] ++ rest (rs[i].map fv) [44] 0 ++ [41] = acc ++ [32] ++ rowT rs[i] := by simp [rowT, rest_zero]
      have h1 : (acc ++ [32] ++ [40] ++ rest (rs[i].map fv) [44] 0 ++ [41]).length ≤ 4194304 := by rw [e]; exact hl'
      rw [ite'_t (by simp only [decide_eq_true_eq]; omega), ite'_t (fits_t (by simp at h1; omega)), ite'_t (fits_t (by simp at h1 ⊢; omega))]
      rw [show ((0 : Int)) = ((0 : Nat) : Int) from rfl, l7b hk hrs hn hg hzi n rs[i].length 0 k (acc ++ [32] ++ [40]) (by omega) (by omega) h1, e]
      rw [ih (i + 1) n _ (by omega) (by omega) (by simpa only [List.append_assoc] using hl)]
      simp only [List.append_assoc]
include hb
theorem c7 (hz : ∀ zs ∈ rs, zs.length ≤ 1048576) (hkk : 2000000 ≤ k) : C (k + 1) 7 [.d (.list 1 (II rs))] = some [(false, [.d (.str (rowsT rs))])] := by
  rw [F7.run, show ((0 : Int)) = ((0 : Nat) : Int) from rfl, l7a hk hrs hn hz hkk rs.length 0 k [] (by omega) (by omega) (by rw [rest_zero]; exact hb)]
  rfl
end
/-! ### impl.FormatRows -/
theorem c28 (k : Nat) {ts : List (List UInt8)} {sep : List UInt8} (h1 : ts.length ≤ 1099511627776) (h2 : (Lib.join ts sep).length ≤ 1099511627776) : C (k + 1) 28 [.d (.list 1 (T1 ts)), .d (.str sep)] = some [(false, [.d (.str (Lib.join ts sep))])] := by
  have : C (k + 1) 28 [.d (.list 1 (T1 ts)), .d (.str sep)] = joinP [.d (.list 1 (T1 ts)), .d (.str sep)] := by kernel_rfl
  rw [this]
  have h1 : Nat.ble ts.length 1099511627776 = true := Nat.ble_eq_true_of_le h1
  have h2 : Nat.ble (Lib.join ts sep).length 1099511627776 = true := Nat.ble_eq_true_of_le h2
  simp only [joinP, texts_T1, h1, h2, Bool.and_self, cond_true]
theorem T1_snoc (ts : List (List UInt8)) (s : List UInt8) : T1 ts ++ [[.str s]] = T1 (ts ++ [s]) := by simp [T1]
section
variable {k : Nat} (hk : 100 ≤ k) {rs : List (List Int)} (hrs : ∀ zs ∈ rs, ∀ z ∈ zs, inI z) (hn : rs.length ≤ 1048576) (hb : (rowsT rs).length ≤ 4194304)
include hk hrs hn
theorem l9b {i : Nat} {zs : List Int} (hi : rs[i]? = some zs) (hz : zs.length ≤ 1048576) (k3 : Nat) (out : List (List UInt8)) (ho : out.length ≤ 1048576) : ∀ (m j n : Nat), j + m = zs.length → m < n →
    F9.L7 k (C k) k3 n (II rs) (rs.length : Nat) i (I1 zs) (zs.length : Nat) j (T1 out) (T1 ((zs.take j).map fv)) = F9.L3 k (C k) k3 (II rs) (rs.length : Nat) ((i + 1 : Nat) : Int) (T1 (out ++ [rowT zs])) := by
  have hil := (List.getElem?_eq_some_iff.1 hi).1
  intro m
  induction m with
  | zero =>
    intro j n hm hn'
    obtain ⟨n, rfl⟩ : ∃ q, n = q + 1 := ⟨n - 1, by omega⟩
    obtain rfl : j = zs.length := by omega
    obtain ⟨k, rfl⟩ : ∃ q, k = q + 1 := ⟨k - 1, by omega⟩
    have hjl := join_len (zs.map fv) [44] 4 (fun x hx => by
      obtain ⟨z, _, rfl⟩ := List.mem_map.1 hx
      have := fv_len z
      simp; omega)
    rw [List.length_map] at hjl
    rw [F9.L7.succ, ite'_f (lt_f (by omega)), List.take_length, c28 k (by simp; omega) (by omega), bindR_s, resS_s, bindS_s, ite'_t (fits_t (by omega)), ite'_t (fits_t (by simp; omega)), ite'_t (fits_t (by simp [T1_len]; omega))]
    rw [T1_snoc, wrap_succ (m := rs.length) (by omega) (by omega) (by unfold maxLen; omega)]
    rfl
  | succ m ih =>
    intro j n hm hn'
    obtain ⟨n, rfl⟩ : ∃ q, n = q + 1 := ⟨n - 1, by omega⟩
    have hj : j < zs.length := by omega
    have hg := List.getElem?_eq_getElem hj
    have hgz : inI zs[j] := hrs zs (List.mem_of_getElem? hi) _ (List.getElem_mem hj)
    have hj1 : inR (j : Int) (List.length (I1 zs)) = true := inR_t (by rw [I1_len]; exact hj)
    have hcI : cellI .i64 (I1 zs) (j : Int).toNat 0 = some zs[j] := by
      rw [Int.toNat_natCast, cellI_at (I1_get' hg)]
      simp [asI_s]
    have hw : IntKind.i64.wrap ((j : Int) + 1) = ((j + 1 : Nat) : Int) := next_i hj (by unfold maxLen; omega)
    have ht : (zs.take j).map fv ++ [fv zs[j]] = (zs.take (j + 1)).map fv := by
      rw [List.take_succ_eq_append_getElem hj, List.map_append]; rfl
    rw [F9.L7.succ, ite'_t (lt_t hj), ite'_t hj1, hcI, bindI_s, c27 hk hgz, bindR_s, resS_s, bindS_s, ite'_t (fits_t (by simp [T1_len]; omega)), T1_snoc, ht, hw]
    exact ih (j + 1) n (by omega) (by omega)
include hb
theorem l9a (hz : ∀ zs ∈ rs, zs.length ≤ 1048576) (hkk : 2000000 ≤ k) : ∀ (m i n : Nat), i + m = rs.length → m < n →
    F9.L3 k (C k) n (II rs) (rs.length : Nat) i (T1 ((rs.take i).map rowT)) = some [(false, [.d (.str (rowsT rs))])] := by
  intro m
  induction m with
  | zero =>
    intro i n hm hn'
    obtain ⟨n, rfl⟩ : ∃ q, n = q + 1 := ⟨n - 1, by omega⟩
    obtain rfl : i = rs.length := by omega
    obtain ⟨k, rfl⟩ : ∃ q, k = q + 1 := ⟨k - 1, by omega⟩
    have : (Lib.join (rs.map rowT) [32]).length ≤ 4194304 := hb
    rw [F9.L3.succ, ite'_f (lt_f (by omega)), List.take_length, c28 k (by simp; omega) (by omega), bindR_s, resS_s, bindS_s]
    rfl
  | succ m ih =>
    intro i n hm hn'
    obtain ⟨n, rfl⟩ : ∃ q, n = q + 1 := ⟨n - 1, by omega⟩
    have hi : i < rs.length := by omega
    have hg := List.getElem?_eq_getElem hi
    have hzi := hz _ (List.getElem_mem hi)
    have hc : cellL 1 (II rs) (i : Int).toNat 0 = some (I1 rs[i]) := by
      rw [Int.toNat_natCast, cellL_at (II_get hg)]
      simp [asL_s]
    have ht : (rs.take i).map rowT ++ [rowT rs[i]] = (rs.take (i + 1)).map rowT := by
      rw [List.take_succ_eq_append_getElem hi, List.map_append]; rfl
    have := l9b hk hrs hn hg hzi n ((rs.take i).map rowT) (by simp; omega) rs[i].length 0 k (by omega) (by omega)
    rw [F9.L3.succ, ite'_t (lt_t hi), ite'_t (inR_t (by rw [II_len]; exact hi)), hc, bindL_s, I1_len]
    rw [ht] at this
    exact this.trans (ih (i + 1) n (by omega) (by omega))
theorem c9 (hz : ∀ zs ∈ rs, zs.length ≤ 1048576) (hkk : 2000000 ≤ k) : C (k + 1) 9 [.d (.list 1 (II rs))] = some [(false, [.d (.str (rowsT rs))])] := by
  rw [F9.run, II_len]
  exact l9a hk hrs hn hb hz hkk rs.length 0 k (by omega) (by omega)
end
/-- the law -/
theorem law3 {k : Nat} (hk : 3000000 ≤ k) {a : Ovi.Rows} (ha : Fit (.list [.list [.int .i64]]) (.list 1 a)) : C k 3 [.d (.list 1 a)] = some yes := by
  obtain ⟨k, rfl⟩ : ∃ j, k = j + 2 := ⟨k - 2, by omega⟩
  rw [F3.run, c6 (by omega) ha (by omega) (by omega), bindR_s, resI_s, bindI_s]
  rcases szT_cases 1048576 (szD (.list 1 a)) with ⟨h1, h2⟩ | ⟨h1, h2⟩
  · have hs : szD (.list 1 a) ≤ 1048576 := by omega
    obtain ⟨rs, rfl, hrs⟩ := Fit.intss ha
    have hb := rowsT_len hs
    have hs' := hs
    rw [szD, szR_II, II_len] at hs'
    have hz : ∀ zs ∈ rs, zs.length ≤ 1048576 := by
      intro zs hzs
      have : zs.length ≤ (rs.map List.length).sum := by
        clear hs' hs hb h1 h2 ha hrs
        induction rs with
        | nil => cases hzs
        | cons x rs ih =>
          rcases List.mem_cons.1 hzs with rfl | h
          · simp
          · have := ih h; simp; omega
      omega
    have e7 := c7 (k := k) (by omega) hrs (by omega) hb hz (by omega)
    have e9 := c9 (k := k) (by omega) hrs (by omega) hb hz (by omega)
    rw [h2, ite'_f (neg_f (by omega)), c8 (by omega) ha hs, bindR_s, resO_s, bindL_s, e7, bindR_s, resS_s, bindS_s, bindR_s, resO_s, bindL_s, e9, bindR_s, resS_s, bindS_s, ite'_f (by simp), bindR_s, resO_s, bindL_s, c10 (by omega) ha hs, bindR_s, resB_s, bindB_s, ite'_nt]
    rfl
  · rw [h2, ite'_t neg_t]
    rfl
end Go.Proofs.YtekcjghbfbfmpaaDoor.Q

/-! DGb -/

namespace Go.Proofs.YtekcjghbfbfmpaaDoor.Q
open Go Ovi
/-- laws.szRelation -/
theorem c40 {k : Nat} (hk : 2000001 ≤ k) {a0 : List UInt8} (ha0 : a0.length ≤ maxLen) {a1 : Int} {a2 : Bool} {left : Int} (h0 : 0 ≤ left) (h1 : left ≤ 1048576) : C k 40 [.agg [.d (.str a0), .d (.int .i64 a1), .d (.bool a2)], .d (.int .i64 left)] = some [(false, [.d (.int .i64 (szT left (szC [.str a0, .int .i64 a1, .bool a2])))])] := by
  obtain ⟨k, rfl⟩ : ∃ j, k = j + 1 := ⟨k - 1, by omega⟩
  have eT : szC [.str a0, .int .i64 a1, .bool a2] = ((a0.length : Nat)) := by simp only [szC, szD] <;> omega
  rw [eT, F40.run]
  unfold maxLen at ha0
  rw [wrap_id (n := left - (a0.length : Int)) (by omega) (by omega)]
  rcases szT_cases (left) ((a0.length : Nat)) with ⟨q0, e0⟩ | ⟨q0, e0⟩
  rotate_left
  · rw [ite'_t (by simp only [decide_eq_true_eq]; omega)] <;> first | rfl | rw [szT_neg (by omega)]
  rw [ite'_f (neg_f (by omega))] <;> first | rfl | (rw [szT_pos (by omega)] <;> (congr 6 <;> omega))
/-- laws.toRelation -/
theorem F45x0 {a0 : List UInt8} {a1 : Int} {a2 : Bool} : resS 1 true 3 [(true, [.d (.str a0), .d (.int .i64 a1), .d (.bool a2)])] 0 0 = some a0 := rfl
theorem F45x1 {a0 : List UInt8} {a1 : Int} {a2 : Bool} : resI .i64 1 true 3 [(true, [.d (.str a0), .d (.int .i64 a1), .d (.bool a2)])] 0 1 = some a1 := rfl
theorem F45x2 {a0 : List UInt8} {a1 : Int} {a2 : Bool} : resB 1 true 3 [(true, [.d (.str a0), .d (.int .i64 a1), .d (.bool a2)])] 0 2 = some a2 := rfl
theorem c45 {k : Nat} (hk : 2000001 ≤ k) {a0 : List UInt8} (ha0 : a0.length ≤ maxLen) {a1 : Int} {a2 : Bool}  : C k 45 [.agg [.d (.str a0), .d (.int .i64 a1), .d (.bool a2)]] = some [(true, [.d (.str a0), .d (.int .i64 a1), .d (.bool a2)])] := by
  obtain ⟨k, rfl⟩ : ∃ j, k = j + 1 := ⟨k - 1, by omega⟩
  rw [F45.run]
/-- laws.eqRelation -/
theorem c50 {k : Nat} (hk : 2000001 ≤ k) {a0 : List UInt8} (ha0 : a0.length ≤ maxLen) {a1 : Int} {a2 : Bool}  : C k 50 [.agg [.d (.str a0), .d (.int .i64 a1), .d (.bool a2)], .agg [.d (.str a0), .d (.int .i64 a1), .d (.bool a2)]] = some [(false, [.d (.bool true)])] := by
  obtain ⟨k, rfl⟩ : ∃ j, k = j + 1 := ⟨k - 1, by omega⟩
  rw [F50.run]
  simp only [List.getElem?_cons_zero, List.getElem?_cons_succ, Option.bind_some, asI_s, asB_s, asS_s, asL_s, bindI_s, bindB_s, bindS_s, bindL_s, bindR_s, resI_s, resB_s, resS_s, resO_s, bne_self_eq_false, beq_self_eq_true, Bool.not_true]
  rfl
/-- laws.szRelationS -/
theorem l16 {k : Nat} (hk : 2000001 ≤ k) {a : Ovi.Rows} (ha : Fit (.list [.str, .int .i64, .bool]) (.list 3 a)) : ∀ (m i n : Nat) (left : Int), 0 ≤ left → left ≤ 1048576 → i + m = a.length → m < n → F16.L5 k (C k) n a left (i : Int) = some [(false, [.d (.int .i64 (szT left (szR (a.drop i))))])] := by
  have hlen := ha.len
  intro m; induction m with
  | zero =>
    intro i n left h0 h1 hm hn
    obtain ⟨n, rfl⟩ : ∃ j, n = j + 1 := ⟨n - 1, by omega⟩
    rw [F16.L5.succ, ite'_f (lt_f (by omega)), List.drop_eq_nil_of_le (by omega)]
    simp only [szR, szT_pos (left := left) (s := 0) (by omega)]
    simp
  | succ m ih =>
    intro i n left h0 h1 hm hn
    obtain ⟨n, rfl⟩ : ∃ j, n = j + 1 := ⟨n - 1, by omega⟩
    obtain ⟨row, hr, hfr, hdr⟩ := ha.row (i := i) (by omega)
    obtain ⟨d0, rr0, rfl, hd0, hfr0⟩ := Fits.cons hfr
    obtain ⟨x0, rfl, hx0⟩ := hd0.str
    obtain ⟨d1, rr1, rfl, hd1, hfr1⟩ := Fits.cons hfr0
    obtain ⟨x1, rfl, wx1⟩ := hd1.int
    obtain ⟨d2, rr2, rfl, hd2, hfr2⟩ := Fits.cons hfr1
    obtain ⟨x2, rfl⟩ := hd2.bool
    obtain rfl := Fits.nil hfr2
    have eR : szR (a.drop i) = szC [.str x0, .int .i64 x1, .bool x2] + szR (a.drop (i + 1)) := by rw [hdr]; rfl
    rw [F16.L5.succ, ite'_t (lt_t (by omega)), ite'_t (inR_t (by omega)), eR]
    simp only [Int.toNat_natCast, cellI_at hr, cellB_at hr, cellS_at hr, cellL_at hr]
    simp only [List.getElem?_cons_zero, List.getElem?_cons_succ, Option.bind_some, asI_s, asB_s, asS_s, asL_s, bindI_s, bindB_s, bindS_s, bindL_s, bindR_s, resI_s, resB_s, resS_s, resO_s, bne_self_eq_false, beq_self_eq_true, Bool.not_true]
    have cc := c40 (k := k) (by omega) (a1 := x1) (a2 := x2) hx0 h0 h1
    rw [cc]
    simp only [List.getElem?_cons_zero, List.getElem?_cons_succ, Option.bind_some, asI_s, asB_s, asS_s, asL_s, bindI_s, bindB_s, bindS_s, bindL_s, bindR_s, resI_s, resB_s, resS_s, resO_s, bne_self_eq_false, beq_self_eq_true, Bool.not_true]
    rcases szT_cases left (szC [.str x0, .int .i64 x1, .bool x2]) with ⟨q, e⟩ | ⟨q, e⟩ <;> rw [e]
    · rw [ite'_f (neg_f (by omega)), wrap_succ (m := a.length) (by omega) (by omega) hlen]
      have := ih (i + 1) n (left - ((szC [.str x0, .int .i64 x1, .bool x2] : Nat) : Int)) (by omega) (by omega) (by omega) (by omega)
      rw [show ((i : Int) + 1) = ((i + 1 : Nat) : Int) by omega, this]
      rcases szT_cases (left - ((szC [.str x0, .int .i64 x1, .bool x2] : Nat) : Int)) (szR (a.drop (i + 1))) with ⟨q2, e2⟩ | ⟨q2, e2⟩ <;> rw [e2]
      · rw [szT_pos (by omega)] <;> (congr 6 <;> omega)
      · rw [szT_neg (by omega)]
    · rw [ite'_t neg_t, szT_neg (by omega)]
theorem c16 {k : Nat} (hk : 2000002 ≤ k) {a : Ovi.Rows} (ha : Fit (.list [.str, .int .i64, .bool]) (.list 3 a)) {left : Int} (h0 : 0 ≤ left) (h1 : left ≤ 1048576) : C k 16 [.d (.list 3 a), .d (.int .i64 left)] = some [(false, [.d (.int .i64 (szT left (szD (.list 3 a))))])] := by
  obtain ⟨k, rfl⟩ : ∃ j, k = j + 1 := ⟨k - 1, by omega⟩
  have hlen := ha.len; unfold maxLen at hlen
  rw [F16.run, wrap_id (by omega) (by omega)]
  have eD : szD (.list 3 a) = a.length + szR a := by simp only [szD]
  rw [eD]
  rcases szT_cases left a.length with ⟨q, e⟩ | ⟨q, e⟩
  · rw [ite'_f (neg_f (by omega))]
    have := l16 (k := k) (by omega) ha a.length 0 k (left - (a.length : Int)) (by omega) (by omega) (by omega) (by omega)
    rw [List.drop_zero] at this
    rw [show ((0 : Int)) = ((0 : Nat) : Int) by rfl, this]
    rcases szT_cases (left - (a.length : Int)) (szR a) with ⟨q2, e2⟩ | ⟨q2, e2⟩ <;> rw [e2]
    · rw [szT_pos (by omega)] <;> (congr 6 <;> omega)
    · rw [szT_neg (by omega)]
  · rw [ite'_t (by simp only [decide_eq_true_eq]; omega), szT_neg (by omega)]
/-- laws.toRelationS -/
theorem l19 {k : Nat} (hk : 2000001 ≤ k) {a : Ovi.Rows} (ha : Fit (.list [.str, .int .i64, .bool]) (.list 3 a)) (hs : szR a ≤ 1048576) : ∀ (m i n : Nat) (v : Ovi.Rows), Filled a v i 3 → i + m = a.length → m < n → F19.L3 k (C k) n a (i : Int) v = some [(false, [.row 83 3 a])] := by
  have hlen := ha.len
  intro m; induction m with
  | zero =>
    intro i n v hv hm hn
    obtain ⟨n, rfl⟩ : ∃ j, n = j + 1 := ⟨n - 1, by omega⟩
    obtain rfl : i = a.length := by omega
    rw [F19.L3.succ, ite'_f (lt_f (by omega)), hv.done]
  | succ m ih =>
    intro i n v hv hm hn
    obtain ⟨n, rfl⟩ : ∃ j, n = j + 1 := ⟨n - 1, by omega⟩
    obtain ⟨row, hr, hfr, hdr⟩ := ha.row (i := i) (by omega)
    obtain ⟨d0, rr0, rfl, hd0, hfr0⟩ := Fits.cons hfr
    obtain ⟨x0, rfl, hx0⟩ := hd0.str
    obtain ⟨d1, rr1, rfl, hd1, hfr1⟩ := Fits.cons hfr0
    obtain ⟨x1, rfl, wx1⟩ := hd1.int
    obtain ⟨d2, rr2, rfl, hd2, hfr2⟩ := Fits.cons hfr1
    obtain ⟨x2, rfl⟩ := hd2.bool
    obtain rfl := Fits.nil hfr2
    have hst := hv.step hr rfl
    have hvl := hv.1
    have hszr := szR_at hr
    rw [F19.L3.succ, ite'_t (lt_t (by omega)), ite'_t (inR_t (by omega))]
    simp only [Int.toNat_natCast, cellI_at hr, cellB_at hr, cellS_at hr, cellL_at hr]
    simp only [List.getElem?_cons_zero, List.getElem?_cons_succ, Option.bind_some, asI_s, asB_s, asS_s, asL_s, bindI_s, bindB_s, bindS_s, bindL_s, bindR_s, resI_s, resB_s, resS_s, resO_s, bne_self_eq_false, beq_self_eq_true, Bool.not_true]
    rw [c45 (k := k) (by omega) (a1 := x1) (a2 := x2) hx0 ]
    simp only [List.getElem?_cons_zero, List.getElem?_cons_succ, Option.bind_some, asI_s, asB_s, asS_s, asL_s, bindI_s, bindB_s, bindS_s, bindL_s, bindR_s, resI_s, resB_s, resS_s, resO_s, bne_self_eq_false, beq_self_eq_true, Bool.not_true]
    simp only [F45x0, F45x1, F45x2]
    simp only [List.getElem?_cons_zero, List.getElem?_cons_succ, Option.bind_some, asI_s, asB_s, asS_s, asL_s, bindI_s, bindB_s, bindS_s, bindL_s, bindR_s, resI_s, resB_s, resS_s, resO_s, bne_self_eq_false, beq_self_eq_true, Bool.not_true]
    rw [ite'_t (inR_t (by omega)), wrap_succ (m := a.length) (by omega) (by omega) hlen]
    rw [show ((i : Int) + 1) = ((i + 1 : Nat) : Int) by omega]
    exact ih (i + 1) n _ hst (by omega) (by omega)
theorem c19 {k : Nat} (hk : 2000002 ≤ k) {a : Ovi.Rows} (ha : Fit (.list [.str, .int .i64, .bool]) (.list 3 a)) (hs : szD (.list 3 a) ≤ 1048576) : C k 19 [.d (.list 3 a)] = some [(false, [.row 83 3 a])] := by
  obtain ⟨k, rfl⟩ : ∃ j, k = j + 1 := ⟨k - 1, by omega⟩
  simp only [szD] at hs
  rw [F19.run, ite'_t (beq_t _), ite'_t (inM_t (by omega))]
  exact l19 (k := k) (by omega) ha (by omega) a.length 0 k _ (Filled.start a _) (by omega) (by omega)
/-- laws.eqRelationS -/
theorem l22 {k : Nat} (hk : 2000001 ≤ k) {a : Ovi.Rows} (ha : Fit (.list [.str, .int .i64, .bool]) (.list 3 a)) (hs : szR a ≤ 1048576) : ∀ (m i n : Nat), i + m = a.length → m < n → F22.L4 k (C k) n a a (i : Int) = some [(false, [.d (.bool true)])] := by
  have hlen := ha.len
  intro m; induction m with
  | zero =>
    intro i n hm hn
    obtain ⟨n, rfl⟩ : ∃ j, n = j + 1 := ⟨n - 1, by omega⟩
    rw [F22.L4.succ, ite'_f (lt_f (by omega))]
  | succ m ih =>
    intro i n hm hn
    obtain ⟨n, rfl⟩ : ∃ j, n = j + 1 := ⟨n - 1, by omega⟩
    obtain ⟨row, hr, hfr, hdr⟩ := ha.row (i := i) (by omega)
    obtain ⟨d0, rr0, rfl, hd0, hfr0⟩ := Fits.cons hfr
    obtain ⟨x0, rfl, hx0⟩ := hd0.str
    obtain ⟨d1, rr1, rfl, hd1, hfr1⟩ := Fits.cons hfr0
    obtain ⟨x1, rfl, wx1⟩ := hd1.int
    obtain ⟨d2, rr2, rfl, hd2, hfr2⟩ := Fits.cons hfr1
    obtain ⟨x2, rfl⟩ := hd2.bool
    obtain rfl := Fits.nil hfr2
    have hszr := szR_at hr
    rw [F22.L4.succ, ite'_t (lt_t (by omega)), ite'_t (inR_t (by omega))]
    simp only [Int.toNat_natCast, cellI_at hr, cellB_at hr, cellS_at hr, cellL_at hr]
    simp only [List.getElem?_cons_zero, List.getElem?_cons_succ, Option.bind_some, asI_s, asB_s, asS_s, asL_s, bindI_s, bindB_s, bindS_s, bindL_s, bindR_s, resI_s, resB_s, resS_s, resO_s, bne_self_eq_false, beq_self_eq_true, Bool.not_true]
    rw [ite'_t (inR_t (by omega))]
    rw [c50 (k := k) (by omega) (a1 := x1) (a2 := x2) hx0 ]
    simp only [List.getElem?_cons_zero, List.getElem?_cons_succ, Option.bind_some, asI_s, asB_s, asS_s, asL_s, bindI_s, bindB_s, bindS_s, bindL_s, bindR_s, resI_s, resB_s, resS_s, resO_s, bne_self_eq_false, beq_self_eq_true, Bool.not_true]
    rw [ite'_f rfl, wrap_succ (m := a.length) (by omega) (by omega) hlen]
    rw [show ((i : Int) + 1) = ((i + 1 : Nat) : Int) by omega]
    exact ih (i + 1) n (by omega) (by omega)
theorem c22 {k : Nat} (hk : 2000002 ≤ k) {a : Ovi.Rows} (ha : Fit (.list [.str, .int .i64, .bool]) (.list 3 a)) (hs : szD (.list 3 a) ≤ 1048576) : C k 22 [.d (.list 3 a), .d (.list 3 a)] = some [(false, [.d (.bool true)])] := by
  obtain ⟨k, rfl⟩ : ∃ j, k = j + 1 := ⟨k - 1, by omega⟩
  simp only [szD] at hs
  rw [F22.run, ite'_f (bne_f _)]
  exact l22 (k := k) (by omega) ha (by omega) a.length 0 k (by omega) (by omega)
/-- laws.szAtom -/
theorem c67 {k : Nat} (hk : 2000002 ≤ k) {a0 : Int} {a1 : Ovi.Rows} (ha1 : Fit (.list [.int .i64]) (.list 1 a1)) {left : Int} (h0 : 0 ≤ left) (h1 : left ≤ 1048576) : C k 67 [.agg [.d (.int .i64 a0), .d (.list 1 a1)], .d (.int .i64 left)] = some [(false, [.d (.int .i64 (szT left (szC [.int .i64 a0, .list 1 a1])))])] := by
  obtain ⟨k, rfl⟩ : ∃ j, k = j + 1 := ⟨k - 1, by omega⟩
  have eT : szC [.int .i64 a0, .list 1 a1] = (szD (.list 1 a1)) := by simp only [szC, szD] <;> omega
  rw [eT, F67.run]
  rw [c24 (k := k) (by omega)  ha1 (left := left) (by omega) (by omega)]
  simp only [List.getElem?_cons_zero, List.getElem?_cons_succ, Option.bind_some, asI_s, asB_s, asS_s, asL_s, bindI_s, bindB_s, bindS_s, bindL_s, bindR_s, resI_s, resB_s, resS_s, resO_s, bne_self_eq_false, beq_self_eq_true, Bool.not_true]
  rcases szT_cases (left) (szD (.list 1 a1)) with ⟨q0, e0⟩ | ⟨q0, e0⟩ <;> rw [e0]
  rotate_left
  · rw [ite'_t (by simp only [decide_eq_true_eq]; omega)] <;> first | rfl | rw [szT_neg (by omega)]
  rw [ite'_f (neg_f (by omega))] <;> first | rfl | (rw [szT_pos (by omega)] <;> (congr 6 <;> omega))
/-- laws.toAtom -/
theorem F72x0 {a0 : Int} {a1 : Ovi.Rows} : resI .i64 1 true 2 [(true, [.d (.int .i64 a0), .row 3 1 a1])] 0 0 = some a0 := rfl
theorem F72x1 {a0 : Int} {a1 : Ovi.Rows} : resO 3 1 1 true 2 [(true, [.d (.int .i64 a0), .row 3 1 a1])] 0 1 = some a1 := rfl
theorem c72 {k : Nat} (hk : 2000002 ≤ k) {a0 : Int} {a1 : Ovi.Rows} (ha1 : Fit (.list [.int .i64]) (.list 1 a1)) (s1 : szD (.list 1 a1) ≤ 1048576) : C k 72 [.agg [.d (.int .i64 a0), .d (.list 1 a1)]] = some [(true, [.d (.int .i64 a0), .row 3 1 a1])] := by
  obtain ⟨k, rfl⟩ : ∃ j, k = j + 1 := ⟨k - 1, by omega⟩
  rw [F72.run]
  rw [c26 (k := k) (by omega)  ha1 s1]
  simp only [List.getElem?_cons_zero, List.getElem?_cons_succ, Option.bind_some, asI_s, asB_s, asS_s, asL_s, bindI_s, bindB_s, bindS_s, bindL_s, bindR_s, resI_s, resB_s, resS_s, resO_s, bne_self_eq_false, beq_self_eq_true, Bool.not_true]
/-- laws.eqAtom -/
theorem c80 {k : Nat} (hk : 2000002 ≤ k) {a0 : Int} {a1 : Ovi.Rows} (ha1 : Fit (.list [.int .i64]) (.list 1 a1)) (s1 : szD (.list 1 a1) ≤ 1048576) : C k 80 [.agg [.d (.int .i64 a0), .d (.list 1 a1)], .agg [.d (.int .i64 a0), .d (.list 1 a1)]] = some [(false, [.d (.bool true)])] := by
  obtain ⟨k, rfl⟩ : ∃ j, k = j + 1 := ⟨k - 1, by omega⟩
  rw [F80.run]
  rw [c29 (k := k) (by omega)  ha1 s1]
  simp only [List.getElem?_cons_zero, List.getElem?_cons_succ, Option.bind_some, asI_s, asB_s, asS_s, asL_s, bindI_s, bindB_s, bindS_s, bindL_s, bindR_s, resI_s, resB_s, resS_s, resO_s, bne_self_eq_false, beq_self_eq_true, Bool.not_true]
  rfl
/-- laws.szAtomS -/
theorem l41 {k : Nat} (hk : 2000002 ≤ k) {a : Ovi.Rows} (ha : Fit (.list [.int .i64, .list [.int .i64]]) (.list 2 a)) : ∀ (m i n : Nat) (left : Int), 0 ≤ left → left ≤ 1048576 → i + m = a.length → m < n → F41.L5 k (C k) n a left (i : Int) = some [(false, [.d (.int .i64 (szT left (szR (a.drop i))))])] := by
  have hlen := ha.len
  intro m; induction m with
  | zero =>
    intro i n left h0 h1 hm hn
    obtain ⟨n, rfl⟩ : ∃ j, n = j + 1 := ⟨n - 1, by omega⟩
    rw [F41.L5.succ, ite'_f (lt_f (by omega)), List.drop_eq_nil_of_le (by omega)]
    simp only [szR, szT_pos (left := left) (s := 0) (by omega)]
    simp
  | succ m ih =>
    intro i n left h0 h1 hm hn
    obtain ⟨n, rfl⟩ : ∃ j, n = j + 1 := ⟨n - 1, by omega⟩
    obtain ⟨row, hr, hfr, hdr⟩ := ha.row (i := i) (by omega)
    obtain ⟨d0, rr0, rfl, hd0, hfr0⟩ := Fits.cons hfr
    obtain ⟨x0, rfl, wx0⟩ := hd0.int
    obtain ⟨d1, rr1, rfl, hd1, hfr1⟩ := Fits.cons hfr0
    obtain ⟨x1, rfl, hx1⟩ := hd1.list (n := 1) rfl
    obtain rfl := Fits.nil hfr1
    have eR : szR (a.drop i) = szC [.int .i64 x0, .list 1 x1] + szR (a.drop (i + 1)) := by rw [hdr]; rfl
    rw [F41.L5.succ, ite'_t (lt_t (by omega)), ite'_t (inR_t (by omega)), eR]
    simp only [Int.toNat_natCast, cellI_at hr, cellB_at hr, cellS_at hr, cellL_at hr]
    simp only [List.getElem?_cons_zero, List.getElem?_cons_succ, Option.bind_some, asI_s, asB_s, asS_s, asL_s, bindI_s, bindB_s, bindS_s, bindL_s, bindR_s, resI_s, resB_s, resS_s, resO_s, bne_self_eq_false, beq_self_eq_true, Bool.not_true]
    have cc := c67 (k := k) (by omega) (a0 := x0) hx1 h0 h1
    rw [cc]
    simp only [List.getElem?_cons_zero, List.getElem?_cons_succ, Option.bind_some, asI_s, asB_s, asS_s, asL_s, bindI_s, bindB_s, bindS_s, bindL_s, bindR_s, resI_s, resB_s, resS_s, resO_s, bne_self_eq_false, beq_self_eq_true, Bool.not_true]
    rcases szT_cases left (szC [.int .i64 x0, .list 1 x1]) with ⟨q, e⟩ | ⟨q, e⟩ <;> rw [e]
    · rw [ite'_f (neg_f (by omega)), wrap_succ (m := a.length) (by omega) (by omega) hlen]
      have := ih (i + 1) n (left - ((szC [.int .i64 x0, .list 1 x1] : Nat) : Int)) (by omega) (by omega) (by omega) (by omega)
      rw [show ((i : Int) + 1) = ((i + 1 : Nat) : Int) by omega, this]
      rcases szT_cases (left - ((szC [.int .i64 x0, .list 1 x1] : Nat) : Int)) (szR (a.drop (i + 1))) with ⟨q2, e2⟩ | ⟨q2, e2⟩ <;> rw [e2]
      · rw [szT_pos (by omega)] <;> (congr 6 <;> omega)
      · rw [szT_neg (by omega)]
    · rw [ite'_t neg_t, szT_neg (by omega)]
theorem c41 {k : Nat} (hk : 2000003 ≤ k) {a : Ovi.Rows} (ha : Fit (.list [.int .i64, .list [.int .i64]]) (.list 2 a)) {left : Int} (h0 : 0 ≤ left) (h1 : left ≤ 1048576) : C k 41 [.d (.list 2 a), .d (.int .i64 left)] = some [(false, [.d (.int .i64 (szT left (szD (.list 2 a))))])] := by
  obtain ⟨k, rfl⟩ : ∃ j, k = j + 1 := ⟨k - 1, by omega⟩
  have hlen := ha.len; unfold maxLen at hlen
  rw [F41.run, wrap_id (by omega) (by omega)]
  have eD : szD (.list 2 a) = a.length + szR a := by simp only [szD]
  rw [eD]
  rcases szT_cases left a.length with ⟨q, e⟩ | ⟨q, e⟩
  · rw [ite'_f (neg_f (by omega))]
    have := l41 (k := k) (by omega) ha a.length 0 k (left - (a.length : Int)) (by omega) (by omega) (by omega) (by omega)
    rw [List.drop_zero] at this
    rw [show ((0 : Int)) = ((0 : Nat) : Int) by rfl, this]
    rcases szT_cases (left - (a.length : Int)) (szR a) with ⟨q2, e2⟩ | ⟨q2, e2⟩ <;> rw [e2]
    · rw [szT_pos (by omega)] <;> (congr 6 <;> omega)
    · rw [szT_neg (by omega)]
  · rw [ite'_t (by simp only [decide_eq_true_eq]; omega), szT_neg (by omega)]
/-- laws.toAtomS -/
theorem l46 {k : Nat} (hk : 2000002 ≤ k) {a : Ovi.Rows} (ha : Fit (.list [.int .i64, .list [.int .i64]]) (.list 2 a)) (hs : szR a ≤ 1048576) : ∀ (m i n : Nat) (v : Ovi.Rows), Filled a v i 2 → i + m = a.length → m < n → F46.L3 k (C k) n a (i : Int) v = some [(false, [.row 114 2 a])] := by
  have hlen := ha.len
  intro m; induction m with
  | zero =>
    intro i n v hv hm hn
    obtain ⟨n, rfl⟩ : ∃ j, n = j + 1 := ⟨n - 1, by omega⟩
    obtain rfl : i = a.length := by omega
    rw [F46.L3.succ, ite'_f (lt_f (by omega)), hv.done]
  | succ m ih =>
    intro i n v hv hm hn
    obtain ⟨n, rfl⟩ : ∃ j, n = j + 1 := ⟨n - 1, by omega⟩
    obtain ⟨row, hr, hfr, hdr⟩ := ha.row (i := i) (by omega)
    obtain ⟨d0, rr0, rfl, hd0, hfr0⟩ := Fits.cons hfr
    obtain ⟨x0, rfl, wx0⟩ := hd0.int
    obtain ⟨d1, rr1, rfl, hd1, hfr1⟩ := Fits.cons hfr0
    obtain ⟨x1, rfl, hx1⟩ := hd1.list (n := 1) rfl
    obtain rfl := Fits.nil hfr1
    have hst := hv.step hr rfl
    have hvl := hv.1
    have hszr := szR_at hr
    rw [F46.L3.succ, ite'_t (lt_t (by omega)), ite'_t (inR_t (by omega))]
    simp only [Int.toNat_natCast, cellI_at hr, cellB_at hr, cellS_at hr, cellL_at hr]
    simp only [List.getElem?_cons_zero, List.getElem?_cons_succ, Option.bind_some, asI_s, asB_s, asS_s, asL_s, bindI_s, bindB_s, bindS_s, bindL_s, bindR_s, resI_s, resB_s, resS_s, resO_s, bne_self_eq_false, beq_self_eq_true, Bool.not_true]
    rw [c72 (k := k) (by omega) (a0 := x0) hx1 (by simp only [szC, szD] at hszr ⊢; omega)]
    simp only [List.getElem?_cons_zero, List.getElem?_cons_succ, Option.bind_some, asI_s, asB_s, asS_s, asL_s, bindI_s, bindB_s, bindS_s, bindL_s, bindR_s, resI_s, resB_s, resS_s, resO_s, bne_self_eq_false, beq_self_eq_true, Bool.not_true]
    simp only [F72x0, F72x1]
    simp only [List.getElem?_cons_zero, List.getElem?_cons_succ, Option.bind_some, asI_s, asB_s, asS_s, asL_s, bindI_s, bindB_s, bindS_s, bindL_s, bindR_s, resI_s, resB_s, resS_s, resO_s, bne_self_eq_false, beq_self_eq_true, Bool.not_true]
    rw [ite'_t (inR_t (by omega)), wrap_succ (m := a.length) (by omega) (by omega) hlen]
    rw [show ((i : Int) + 1) = ((i + 1 : Nat) : Int) by omega]
    exact ih (i + 1) n _ hst (by omega) (by omega)
theorem c46 {k : Nat} (hk : 2000003 ≤ k) {a : Ovi.Rows} (ha : Fit (.list [.int .i64, .list [.int .i64]]) (.list 2 a)) (hs : szD (.list 2 a) ≤ 1048576) : C k 46 [.d (.list 2 a)] = some [(false, [.row 114 2 a])] := by
  obtain ⟨k, rfl⟩ : ∃ j, k = j + 1 := ⟨k - 1, by omega⟩
  simp only [szD] at hs
  rw [F46.run, ite'_t (beq_t _), ite'_t (inM_t (by omega))]
  exact l46 (k := k) (by omega) ha (by omega) a.length 0 k _ (Filled.start a _) (by omega) (by omega)
/-- laws.eqAtomS -/
theorem l51 {k : Nat} (hk : 2000002 ≤ k) {a : Ovi.Rows} (ha : Fit (.list [.int .i64, .list [.int .i64]]) (.list 2 a)) (hs : szR a ≤ 1048576) : ∀ (m i n : Nat), i + m = a.length → m < n → F51.L4 k (C k) n a a (i : Int) = some [(false, [.d (.bool true)])] := by
  have hlen := ha.len
  intro m; induction m with
  | zero =>
    intro i n hm hn
    obtain ⟨n, rfl⟩ : ∃ j, n = j + 1 := ⟨n - 1, by omega⟩
    rw [F51.L4.succ, ite'_f (lt_f (by omega))]
  | succ m ih =>
    intro i n hm hn
    obtain ⟨n, rfl⟩ : ∃ j, n = j + 1 := ⟨n - 1, by omega⟩
    obtain ⟨row, hr, hfr, hdr⟩ := ha.row (i := i) (by omega)
    obtain ⟨d0, rr0, rfl, hd0, hfr0⟩ := Fits.cons hfr
    obtain ⟨x0, rfl, wx0⟩ := hd0.int
    obtain ⟨d1, rr1, rfl, hd1, hfr1⟩ := Fits.cons hfr0
    obtain ⟨x1, rfl, hx1⟩ := hd1.list (n := 1) rfl
    obtain rfl := Fits.nil hfr1
    have hszr := szR_at hr
    rw [F51.L4.succ, ite'_t (lt_t (by omega)), ite'_t (inR_t (by omega))]
    simp only [Int.toNat_natCast, cellI_at hr, cellB_at hr, cellS_at hr, cellL_at hr]
    simp only [List.getElem?_cons_zero, List.getElem?_cons_succ, Option.bind_some, asI_s, asB_s, asS_s, asL_s, bindI_s, bindB_s, bindS_s, bindL_s, bindR_s, resI_s, resB_s, resS_s, resO_s, bne_self_eq_false, beq_self_eq_true, Bool.not_true]
    rw [ite'_t (inR_t (by omega))]
    rw [c80 (k := k) (by omega) (a0 := x0) hx1 (by simp only [szC, szD] at hszr ⊢; omega)]
    simp only [List.getElem?_cons_zero, List.getElem?_cons_succ, Option.bind_some, asI_s, asB_s, asS_s, asL_s, bindI_s, bindB_s, bindS_s, bindL_s, bindR_s, resI_s, resB_s, resS_s, resO_s, bne_self_eq_false, beq_self_eq_true, Bool.not_true]
    rw [ite'_f rfl, wrap_succ (m := a.length) (by omega) (by omega) hlen]
    rw [show ((i : Int) + 1) = ((i + 1 : Nat) : Int) by omega]
    exact ih (i + 1) n (by omega) (by omega)
theorem c51 {k : Nat} (hk : 2000003 ≤ k) {a : Ovi.Rows} (ha : Fit (.list [.int .i64, .list [.int .i64]]) (.list 2 a)) (hs : szD (.list 2 a) ≤ 1048576) : C k 51 [.d (.list 2 a), .d (.list 2 a)] = some [(false, [.d (.bool true)])] := by
  obtain ⟨k, rfl⟩ : ∃ j, k = j + 1 := ⟨k - 1, by omega⟩
  simp only [szD] at hs
  rw [F51.run, ite'_f (bne_f _)]
  exact l51 (k := k) (by omega) ha (by omega) a.length 0 k (by omega) (by omega)
/-- laws.szQuery -/
theorem c17 {k : Nat} (hk : 2000004 ≤ k) {a0 : Ovi.Rows} (ha0 : Fit (.list [.int .i64]) (.list 1 a0)) {a1 : Ovi.Rows} (ha1 : Fit (.list [.int .i64, .list [.int .i64]]) (.list 2 a1)) {left : Int} (h0 : 0 ≤ left) (h1 : left ≤ 1048576) : C k 17 [.agg [.d (.list 1 a0), .d (.list 2 a1)], .d (.int .i64 left)] = some [(false, [.d (.int .i64 (szT left (szC [.list 1 a0, .list 2 a1])))])] := by
  obtain ⟨k, rfl⟩ : ∃ j, k = j + 1 := ⟨k - 1, by omega⟩
  have eT : szC [.list 1 a0, .list 2 a1] = (szD (.list 1 a0)) + (szD (.list 2 a1)) := by simp only [szC, szD] <;> omega
  rw [eT, F17.run]
  rw [c24 (k := k) (by omega)  ha0 (left := left) (by omega) (by omega)]
  simp only [List.getElem?_cons_zero, List.getElem?_cons_succ, Option.bind_some, asI_s, asB_s, asS_s, asL_s, bindI_s, bindB_s, bindS_s, bindL_s, bindR_s, resI_s, resB_s, resS_s, resO_s, bne_self_eq_false, beq_self_eq_true, Bool.not_true]
  rcases szT_cases (left) (szD (.list 1 a0)) with ⟨q0, e0⟩ | ⟨q0, e0⟩ <;> rw [e0]
  rotate_left
  · rw [ite'_t (by simp only [decide_eq_true_eq]; omega)] <;> first | rfl | rw [szT_neg (by omega)]
  rw [ite'_f (neg_f (by omega))]
  rw [c41 (k := k) (by omega)  ha1 (left := left - ((szD (.list 1 a0) : Nat) : Int)) (by omega) (by omega)]
  simp only [List.getElem?_cons_zero, List.getElem?_cons_succ, Option.bind_some, asI_s, asB_s, asS_s, asL_s, bindI_s, bindB_s, bindS_s, bindL_s, bindR_s, resI_s, resB_s, resS_s, resO_s, bne_self_eq_false, beq_self_eq_true, Bool.not_true]
  rcases szT_cases (left - ((szD (.list 1 a0) : Nat) : Int)) (szD (.list 2 a1)) with ⟨q1, e1⟩ | ⟨q1, e1⟩ <;> rw [e1]
  rotate_left
  · rw [ite'_t (by simp only [decide_eq_true_eq]; omega)] <;> first | rfl | rw [szT_neg (by omega)]
  rw [ite'_f (neg_f (by omega))] <;> first | rfl | (rw [szT_pos (by omega)] <;> (congr 6 <;> omega))
/-- laws.toQuery -/
theorem F20x0 {a0 : Ovi.Rows} {a1 : Ovi.Rows} : resO 3 1 1 true 2 [(true, [.row 3 1 a0, .row 114 2 a1])] 0 0 = some a0 := rfl
theorem F20x1 {a0 : Ovi.Rows} {a1 : Ovi.Rows} : resO 114 2 1 true 2 [(true, [.row 3 1 a0, .row 114 2 a1])] 0 1 = some a1 := rfl
theorem c20 {k : Nat} (hk : 2000004 ≤ k) {a0 : Ovi.Rows} (ha0 : Fit (.list [.int .i64]) (.list 1 a0)) {a1 : Ovi.Rows} (ha1 : Fit (.list [.int .i64, .list [.int .i64]]) (.list 2 a1)) (s0 : szD (.list 1 a0) ≤ 1048576) (s1 : szD (.list 2 a1) ≤ 1048576) : C k 20 [.agg [.d (.list 1 a0), .d (.list 2 a1)]] = some [(true, [.row 3 1 a0, .row 114 2 a1])] := by
  obtain ⟨k, rfl⟩ : ∃ j, k = j + 1 := ⟨k - 1, by omega⟩
  rw [F20.run]
  rw [c26 (k := k) (by omega)  ha0 s0]
  simp only [List.getElem?_cons_zero, List.getElem?_cons_succ, Option.bind_some, asI_s, asB_s, asS_s, asL_s, bindI_s, bindB_s, bindS_s, bindL_s, bindR_s, resI_s, resB_s, resS_s, resO_s, bne_self_eq_false, beq_self_eq_true, Bool.not_true]
  rw [c46 (k := k) (by omega)  ha1 s1]
  simp only [List.getElem?_cons_zero, List.getElem?_cons_succ, Option.bind_some, asI_s, asB_s, asS_s, asL_s, bindI_s, bindB_s, bindS_s, bindL_s, bindR_s, resI_s, resB_s, resS_s, resO_s, bne_self_eq_false, beq_self_eq_true, Bool.not_true]
/-- laws.eqQuery -/
theorem c23 {k : Nat} (hk : 2000004 ≤ k) {a0 : Ovi.Rows} (ha0 : Fit (.list [.int .i64]) (.list 1 a0)) {a1 : Ovi.Rows} (ha1 : Fit (.list [.int .i64, .list [.int .i64]]) (.list 2 a1)) (s0 : szD (.list 1 a0) ≤ 1048576) (s1 : szD (.list 2 a1) ≤ 1048576) : C k 23 [.agg [.d (.list 1 a0), .d (.list 2 a1)], .agg [.d (.list 1 a0), .d (.list 2 a1)]] = some [(false, [.d (.bool true)])] := by
  obtain ⟨k, rfl⟩ : ∃ j, k = j + 1 := ⟨k - 1, by omega⟩
  rw [F23.run]
  rw [c29 (k := k) (by omega)  ha0 s0]
  rw [c51 (k := k) (by omega)  ha1 s1]
  simp only [List.getElem?_cons_zero, List.getElem?_cons_succ, Option.bind_some, asI_s, asB_s, asS_s, asL_s, bindI_s, bindB_s, bindS_s, bindL_s, bindR_s, resI_s, resB_s, resS_s, resO_s, bne_self_eq_false, beq_self_eq_true, Bool.not_true]
  rfl
end Go.Proofs.YtekcjghbfbfmpaaDoor.Q

/-! DGc -/

namespace Go.Proofs.YtekcjghbfbfmpaaDoor.Q
open Go Ovi
/-- laws.szChaseStep -/
theorem c62 {k : Nat} (hk : 2000002 ≤ k) {a0 : Int} {a1 : Ovi.Rows} (ha1 : Fit (.list [.int .i64]) (.list 1 a1)) {left : Int} (h0 : 0 ≤ left) (h1 : left ≤ 1048576) : C k 62 [.agg [.d (.int .i64 a0), .d (.list 1 a1)], .d (.int .i64 left)] = some [(false, [.d (.int .i64 (szT left (szC [.int .i64 a0, .list 1 a1])))])] := by
  obtain ⟨k, rfl⟩ : ∃ j, k = j + 1 := ⟨k - 1, by omega⟩
  have eT : szC [.int .i64 a0, .list 1 a1] = (szD (.list 1 a1)) := by simp only [szC, szD] <;> omega
  rw [eT, F62.run]
  rw [c24 (k := k) (by omega)  ha1 (left := left) (by omega) (by omega)]
  simp only [List.getElem?_cons_zero, List.getElem?_cons_succ, Option.bind_some, asI_s, asB_s, asS_s, asL_s, bindI_s, bindB_s, bindS_s, bindL_s, bindR_s, resI_s, resB_s, resS_s, resO_s, bne_self_eq_false, beq_self_eq_true, Bool.not_true]
  rcases szT_cases (left) (szD (.list 1 a1)) with ⟨q0, e0⟩ | ⟨q0, e0⟩ <;> rw [e0]
  rotate_left
  · rw [ite'_t (by simp only [decide_eq_true_eq]; omega)] <;> first | rfl | rw [szT_neg (by omega)]
  rw [ite'_f (neg_f (by omega))] <;> first | rfl | (rw [szT_pos (by omega)] <;> (congr 6 <;> omega))
/-- laws.toChaseStep -/
theorem F64x0 {a0 : Int} {a1 : Ovi.Rows} : resI .i64 1 true 2 [(true, [.d (.int .i64 a0), .row 3 1 a1])] 0 0 = some a0 := rfl
theorem F64x1 {a0 : Int} {a1 : Ovi.Rows} : resO 3 1 1 true 2 [(true, [.d (.int .i64 a0), .row 3 1 a1])] 0 1 = some a1 := rfl
theorem c64 {k : Nat} (hk : 2000002 ≤ k) {a0 : Int} {a1 : Ovi.Rows} (ha1 : Fit (.list [.int .i64]) (.list 1 a1)) (s1 : szD (.list 1 a1) ≤ 1048576) : C k 64 [.agg [.d (.int .i64 a0), .d (.list 1 a1)]] = some [(true, [.d (.int .i64 a0), .row 3 1 a1])] := by
  obtain ⟨k, rfl⟩ : ∃ j, k = j + 1 := ⟨k - 1, by omega⟩
  rw [F64.run]
  rw [c26 (k := k) (by omega)  ha1 s1]
  simp only [List.getElem?_cons_zero, List.getElem?_cons_succ, Option.bind_some, asI_s, asB_s, asS_s, asL_s, bindI_s, bindB_s, bindS_s, bindL_s, bindR_s, resI_s, resB_s, resS_s, resO_s, bne_self_eq_false, beq_self_eq_true, Bool.not_true]
/-- laws.eqChaseStep -/
theorem c66 {k : Nat} (hk : 2000002 ≤ k) {a0 : Int} {a1 : Ovi.Rows} (ha1 : Fit (.list [.int .i64]) (.list 1 a1)) (s1 : szD (.list 1 a1) ≤ 1048576) : C k 66 [.agg [.d (.int .i64 a0), .d (.list 1 a1)], .agg [.d (.int .i64 a0), .d (.list 1 a1)]] = some [(false, [.d (.bool true)])] := by
  obtain ⟨k, rfl⟩ : ∃ j, k = j + 1 := ⟨k - 1, by omega⟩
  rw [F66.run]
  rw [c29 (k := k) (by omega)  ha1 s1]
  simp only [List.getElem?_cons_zero, List.getElem?_cons_succ, Option.bind_some, asI_s, asB_s, asS_s, asL_s, bindI_s, bindB_s, bindS_s, bindL_s, bindR_s, resI_s, resB_s, resS_s, resO_s, bne_self_eq_false, beq_self_eq_true, Bool.not_true]
  rfl
/-- laws.szFact -/
theorem c84 {k : Nat} (hk : 2000002 ≤ k) {a0 : Int} {a1 : Ovi.Rows} (ha1 : Fit (.list [.int .i64]) (.list 1 a1)) {left : Int} (h0 : 0 ≤ left) (h1 : left ≤ 1048576) : C k 84 [.agg [.d (.int .i64 a0), .d (.list 1 a1)], .d (.int .i64 left)] = some [(false, [.d (.int .i64 (szT left (szC [.int .i64 a0, .list 1 a1])))])] := by
  obtain ⟨k, rfl⟩ : ∃ j, k = j + 1 := ⟨k - 1, by omega⟩
  have eT : szC [.int .i64 a0, .list 1 a1] = (szD (.list 1 a1)) := by simp only [szC, szD] <;> omega
  rw [eT, F84.run]
  rw [c24 (k := k) (by omega)  ha1 (left := left) (by omega) (by omega)]
  simp only [List.getElem?_cons_zero, List.getElem?_cons_succ, Option.bind_some, asI_s, asB_s, asS_s, asL_s, bindI_s, bindB_s, bindS_s, bindL_s, bindR_s, resI_s, resB_s, resS_s, resO_s, bne_self_eq_false, beq_self_eq_true, Bool.not_true]
  rcases szT_cases (left) (szD (.list 1 a1)) with ⟨q0, e0⟩ | ⟨q0, e0⟩ <;> rw [e0]
  rotate_left
  · rw [ite'_t (by simp only [decide_eq_true_eq]; omega)] <;> first | rfl | rw [szT_neg (by omega)]
  rw [ite'_f (neg_f (by omega))] <;> first | rfl | (rw [szT_pos (by omega)] <;> (congr 6 <;> omega))
/-- laws.toFact -/
theorem F85x0 {a0 : Int} {a1 : Ovi.Rows} : resI .i64 1 true 2 [(true, [.d (.int .i64 a0), .row 3 1 a1])] 0 0 = some a0 := rfl
theorem F85x1 {a0 : Int} {a1 : Ovi.Rows} : resO 3 1 1 true 2 [(true, [.d (.int .i64 a0), .row 3 1 a1])] 0 1 = some a1 := rfl
theorem c85 {k : Nat} (hk : 2000002 ≤ k) {a0 : Int} {a1 : Ovi.Rows} (ha1 : Fit (.list [.int .i64]) (.list 1 a1)) (s1 : szD (.list 1 a1) ≤ 1048576) : C k 85 [.agg [.d (.int .i64 a0), .d (.list 1 a1)]] = some [(true, [.d (.int .i64 a0), .row 3 1 a1])] := by
  obtain ⟨k, rfl⟩ : ∃ j, k = j + 1 := ⟨k - 1, by omega⟩
  rw [F85.run]
  rw [c26 (k := k) (by omega)  ha1 s1]
  simp only [List.getElem?_cons_zero, List.getElem?_cons_succ, Option.bind_some, asI_s, asB_s, asS_s, asL_s, bindI_s, bindB_s, bindS_s, bindL_s, bindR_s, resI_s, resB_s, resS_s, resO_s, bne_self_eq_false, beq_self_eq_true, Bool.not_true]
/-- laws.eqFact -/
theorem c86 {k : Nat} (hk : 2000002 ≤ k) {a0 : Int} {a1 : Ovi.Rows} (ha1 : Fit (.list [.int .i64]) (.list 1 a1)) (s1 : szD (.list 1 a1) ≤ 1048576) : C k 86 [.agg [.d (.int .i64 a0), .d (.list 1 a1)], .agg [.d (.int .i64 a0), .d (.list 1 a1)]] = some [(false, [.d (.bool true)])] := by
  obtain ⟨k, rfl⟩ : ∃ j, k = j + 1 := ⟨k - 1, by omega⟩
  rw [F86.run]
  rw [c29 (k := k) (by omega)  ha1 s1]
  simp only [List.getElem?_cons_zero, List.getElem?_cons_succ, Option.bind_some, asI_s, asB_s, asS_s, asL_s, bindI_s, bindB_s, bindS_s, bindL_s, bindR_s, resI_s, resB_s, resS_s, resO_s, bne_self_eq_false, beq_self_eq_true, Bool.not_true]
  rfl
/-- laws.szChaseStepS -/
theorem l31 {k : Nat} (hk : 2000002 ≤ k) {a : Ovi.Rows} (ha : Fit (.list [.int .i64, .list [.int .i64]]) (.list 2 a)) : ∀ (m i n : Nat) (left : Int), 0 ≤ left → left ≤ 1048576 → i + m = a.length → m < n → F31.L5 k (C k) n a left (i : Int) = some [(false, [.d (.int .i64 (szT left (szR (a.drop i))))])] := by
  have hlen := ha.len
  intro m; induction m with
  | zero =>
    intro i n left h0 h1 hm hn
    obtain ⟨n, rfl⟩ : ∃ j, n = j + 1 := ⟨n - 1, by omega⟩
    rw [F31.L5.succ, ite'_f (lt_f (by omega)), List.drop_eq_nil_of_le (by omega)]
    simp only [szR, szT_pos (left := left) (s := 0) (by omega)]
    simp
  | succ m ih =>
    intro i n left h0 h1 hm hn
    obtain ⟨n, rfl⟩ : ∃ j, n = j + 1 := ⟨n - 1, by omega⟩
    obtain ⟨row, hr, hfr, hdr⟩ := ha.row (i := i) (by omega)
    obtain ⟨d0, rr0, rfl, hd0, hfr0⟩ := Fits.cons hfr
    obtain ⟨x0, rfl, wx0⟩ := hd0.int
    obtain ⟨d1, rr1, rfl, hd1, hfr1⟩ := Fits.cons hfr0
    obtain ⟨x1, rfl, hx1⟩ := hd1.list (n := 1) rfl
    obtain rfl := Fits.nil hfr1
    have eR : szR (a.drop i) = szC [.int .i64 x0, .list 1 x1] + szR (a.drop (i + 1)) := by rw [hdr]; rfl
    rw [F31.L5.succ, ite'_t (lt_t (by omega)), ite'_t (inR_t (by omega)), eR]
    simp only [Int.toNat_natCast, cellI_at hr, cellB_at hr, cellS_at hr, cellL_at hr]
    simp only [List.getElem?_cons_zero, List.getElem?_cons_succ, Option.bind_some, asI_s, asB_s, asS_s, asL_s, bindI_s, bindB_s, bindS_s, bindL_s, bindR_s, resI_s, resB_s, resS_s, resO_s, bne_self_eq_false, beq_self_eq_true, Bool.not_true]
    have cc := c62 (k := k) (by omega) (a0 := x0) hx1 h0 h1
    rw [cc]
    simp only [List.getElem?_cons_zero, List.getElem?_cons_succ, Option.bind_some, asI_s, asB_s, asS_s, asL_s, bindI_s, bindB_s, bindS_s, bindL_s, bindR_s, resI_s, resB_s, resS_s, resO_s, bne_self_eq_false, beq_self_eq_true, Bool.not_true]
    rcases szT_cases left (szC [.int .i64 x0, .list 1 x1]) with ⟨q, e⟩ | ⟨q, e⟩ <;> rw [e]
    · rw [ite'_f (neg_f (by omega)), wrap_succ (m := a.length) (by omega) (by omega) hlen]
      have := ih (i + 1) n (left - ((szC [.int .i64 x0, .list 1 x1] : Nat) : Int)) (by omega) (by omega) (by omega) (by omega)
      rw [show ((i : Int) + 1) = ((i + 1 : Nat) : Int) by omega, this]
      rcases szT_cases (left - ((szC [.int .i64 x0, .list 1 x1] : Nat) : Int)) (szR (a.drop (i + 1))) with ⟨q2, e2⟩ | ⟨q2, e2⟩ <;> rw [e2]
      · rw [szT_pos (by omega)] <;> (congr 6 <;> omega)
      · rw [szT_neg (by omega)]
    · rw [ite'_t neg_t, szT_neg (by omega)]
theorem c31 {k : Nat} (hk : 2000003 ≤ k) {a : Ovi.Rows} (ha : Fit (.list [.int .i64, .list [.int .i64]]) (.list 2 a)) {left : Int} (h0 : 0 ≤ left) (h1 : left ≤ 1048576) : C k 31 [.d (.list 2 a), .d (.int .i64 left)] = some [(false, [.d (.int .i64 (szT left (szD (.list 2 a))))])] := by
  obtain ⟨k, rfl⟩ : ∃ j, k = j + 1 := ⟨k - 1, by omega⟩
  have hlen := ha.len; unfold maxLen at hlen
  rw [F31.run, wrap_id (by omega) (by omega)]
  have eD : szD (.list 2 a) = a.length + szR a := by simp only [szD]
  rw [eD]
  rcases szT_cases left a.length with ⟨q, e⟩ | ⟨q, e⟩
  · rw [ite'_f (neg_f (by omega))]
    have := l31 (k := k) (by omega) ha a.length 0 k (left - (a.length : Int)) (by omega) (by omega) (by omega) (by omega)
    rw [List.drop_zero] at this
    rw [show ((0 : Int)) = ((0 : Nat) : Int) by rfl, this]
    rcases szT_cases (left - (a.length : Int)) (szR a) with ⟨q2, e2⟩ | ⟨q2, e2⟩ <;> rw [e2]
    · rw [szT_pos (by omega)] <;> (congr 6 <;> omega)
    · rw [szT_neg (by omega)]
  · rw [ite'_t (by simp only [decide_eq_true_eq]; omega), szT_neg (by omega)]
/-- laws.toChaseStepS -/
theorem l35 {k : Nat} (hk : 2000002 ≤ k) {a : Ovi.Rows} (ha : Fit (.list [.int .i64, .list [.int .i64]]) (.list 2 a)) (hs : szR a ≤ 1048576) : ∀ (m i n : Nat) (v : Ovi.Rows), Filled a v i 2 → i + m = a.length → m < n → F35.L3 k (C k) n a (i : Int) v = some [(false, [.row 72 2 a])] := by
  have hlen := ha.len
  intro m; induction m with
  | zero =>
    intro i n v hv hm hn
    obtain ⟨n, rfl⟩ : ∃ j, n = j + 1 := ⟨n - 1, by omega⟩
    obtain rfl : i = a.length := by omega
    rw [F35.L3.succ, ite'_f (lt_f (by omega)), hv.done]
  | succ m ih =>
    intro i n v hv hm hn
    obtain ⟨n, rfl⟩ : ∃ j, n = j + 1 := ⟨n - 1, by omega⟩
    obtain ⟨row, hr, hfr, hdr⟩ := ha.row (i := i) (by omega)
    obtain ⟨d0, rr0, rfl, hd0, hfr0⟩ := Fits.cons hfr
    obtain ⟨x0, rfl, wx0⟩ := hd0.int
    obtain ⟨d1, rr1, rfl, hd1, hfr1⟩ := Fits.cons hfr0
    obtain ⟨x1, rfl, hx1⟩ := hd1.list (n := 1) rfl
    obtain rfl := Fits.nil hfr1
    have hst := hv.step hr rfl
    have hvl := hv.1
    have hszr := szR_at hr
    rw [F35.L3.succ, ite'_t (lt_t (by omega)), ite'_t (inR_t (by omega))]
    simp only [Int.toNat_natCast, cellI_at hr, cellB_at hr, cellS_at hr, cellL_at hr]
    simp only [List.getElem?_cons_zero, List.getElem?_cons_succ, Option.bind_some, asI_s, asB_s, asS_s, asL_s, bindI_s, bindB_s, bindS_s, bindL_s, bindR_s, resI_s, resB_s, resS_s, resO_s, bne_self_eq_false, beq_self_eq_true, Bool.not_true]
    rw [c64 (k := k) (by omega) (a0 := x0) hx1 (by simp only [szC, szD] at hszr ⊢; omega)]
    simp only [List.getElem?_cons_zero, List.getElem?_cons_succ, Option.bind_some, asI_s, asB_s, asS_s, asL_s, bindI_s, bindB_s, bindS_s, bindL_s, bindR_s, resI_s, resB_s, resS_s, resO_s, bne_self_eq_false, beq_self_eq_true, Bool.not_true]
    simp only [F64x0, F64x1]
    simp only [List.getElem?_cons_zero, List.getElem?_cons_succ, Option.bind_some, asI_s, asB_s, asS_s, asL_s, bindI_s, bindB_s, bindS_s, bindL_s, bindR_s, resI_s, resB_s, resS_s, resO_s, bne_self_eq_false, beq_self_eq_true, Bool.not_true]
    rw [ite'_t (inR_t (by omega)), wrap_succ (m := a.length) (by omega) (by omega) hlen]
    rw [show ((i : Int) + 1) = ((i + 1 : Nat) : Int) by omega]
    exact ih (i + 1) n _ hst (by omega) (by omega)
theorem c35 {k : Nat} (hk : 2000003 ≤ k) {a : Ovi.Rows} (ha : Fit (.list [.int .i64, .list [.int .i64]]) (.list 2 a)) (hs : szD (.list 2 a) ≤ 1048576) : C k 35 [.d (.list 2 a)] = some [(false, [.row 72 2 a])] := by
  obtain ⟨k, rfl⟩ : ∃ j, k = j + 1 := ⟨k - 1, by omega⟩
  simp only [szD] at hs
  rw [F35.run, ite'_t (beq_t _), ite'_t (inM_t (by omega))]
  exact l35 (k := k) (by omega) ha (by omega) a.length 0 k _ (Filled.start a _) (by omega) (by omega)
/-- laws.eqChaseStepS -/
theorem l39 {k : Nat} (hk : 2000002 ≤ k) {a : Ovi.Rows} (ha : Fit (.list [.int .i64, .list [.int .i64]]) (.list 2 a)) (hs : szR a ≤ 1048576) : ∀ (m i n : Nat), i + m = a.length → m < n → F39.L4 k (C k) n a a (i : Int) = some [(false, [.d (.bool true)])] := by
  have hlen := ha.len
  intro m; induction m with
  | zero =>
    intro i n hm hn
    obtain ⟨n, rfl⟩ : ∃ j, n = j + 1 := ⟨n - 1, by omega⟩
    rw [F39.L4.succ, ite'_f (lt_f (by omega))]
  | succ m ih =>
    intro i n hm hn
    obtain ⟨n, rfl⟩ : ∃ j, n = j + 1 := ⟨n - 1, by omega⟩
    obtain ⟨row, hr, hfr, hdr⟩ := ha.row (i := i) (by omega)
    obtain ⟨d0, rr0, rfl, hd0, hfr0⟩ := Fits.cons hfr
    obtain ⟨x0, rfl, wx0⟩ := hd0.int
    obtain ⟨d1, rr1, rfl, hd1, hfr1⟩ := Fits.cons hfr0
    obtain ⟨x1, rfl, hx1⟩ := hd1.list (n := 1) rfl
    obtain rfl := Fits.nil hfr1
    have hszr := szR_at hr
    rw [F39.L4.succ, ite'_t (lt_t (by omega)), ite'_t (inR_t (by omega))]
    simp only [Int.toNat_natCast, cellI_at hr, cellB_at hr, cellS_at hr, cellL_at hr]
    simp only [List.getElem?_cons_zero, List.getElem?_cons_succ, Option.bind_some, asI_s, asB_s, asS_s, asL_s, bindI_s, bindB_s, bindS_s, bindL_s, bindR_s, resI_s, resB_s, resS_s, resO_s, bne_self_eq_false, beq_self_eq_true, Bool.not_true]
    rw [ite'_t (inR_t (by omega))]
    rw [c66 (k := k) (by omega) (a0 := x0) hx1 (by simp only [szC, szD] at hszr ⊢; omega)]
    simp only [List.getElem?_cons_zero, List.getElem?_cons_succ, Option.bind_some, asI_s, asB_s, asS_s, asL_s, bindI_s, bindB_s, bindS_s, bindL_s, bindR_s, resI_s, resB_s, resS_s, resO_s, bne_self_eq_false, beq_self_eq_true, Bool.not_true]
    rw [ite'_f rfl, wrap_succ (m := a.length) (by omega) (by omega) hlen]
    rw [show ((i : Int) + 1) = ((i + 1 : Nat) : Int) by omega]
    exact ih (i + 1) n (by omega) (by omega)
theorem c39 {k : Nat} (hk : 2000003 ≤ k) {a : Ovi.Rows} (ha : Fit (.list [.int .i64, .list [.int .i64]]) (.list 2 a)) (hs : szD (.list 2 a) ≤ 1048576) : C k 39 [.d (.list 2 a), .d (.list 2 a)] = some [(false, [.d (.bool true)])] := by
  obtain ⟨k, rfl⟩ : ∃ j, k = j + 1 := ⟨k - 1, by omega⟩
  simp only [szD] at hs
  rw [F39.run, ite'_f (bne_f _)]
  exact l39 (k := k) (by omega) ha (by omega) a.length 0 k (by omega) (by omega)
/-- laws.szFactS -/
theorem l61 {k : Nat} (hk : 2000002 ≤ k) {a : Ovi.Rows} (ha : Fit (.list [.int .i64, .list [.int .i64]]) (.list 2 a)) : ∀ (m i n : Nat) (left : Int), 0 ≤ left → left ≤ 1048576 → i + m = a.length → m < n → F61.L5 k (C k) n a left (i : Int) = some [(false, [.d (.int .i64 (szT left (szR (a.drop i))))])] := by
  have hlen := ha.len
  intro m; induction m with
  | zero =>
    intro i n left h0 h1 hm hn
    obtain ⟨n, rfl⟩ : ∃ j, n = j + 1 := ⟨n - 1, by omega⟩
    rw [F61.L5.succ, ite'_f (lt_f (by omega)), List.drop_eq_nil_of_le (by omega)]
    simp only [szR, szT_pos (left := left) (s := 0) (by omega)]
    simp
  | succ m ih =>
    intro i n left h0 h1 hm hn
    obtain ⟨n, rfl⟩ : ∃ j, n = j + 1 := ⟨n - 1, by omega⟩
    obtain ⟨row, hr, hfr, hdr⟩ := ha.row (i := i) (by omega)
    obtain ⟨d0, rr0, rfl, hd0, hfr0⟩ := Fits.cons hfr
    obtain ⟨x0, rfl, wx0⟩ := hd0.int
    obtain ⟨d1, rr1, rfl, hd1, hfr1⟩ := Fits.cons hfr0
    obtain ⟨x1, rfl, hx1⟩ := hd1.list (n := 1) rfl
    obtain rfl := Fits.nil hfr1
    have eR : szR (a.drop i) = szC [.int .i64 x0, .list 1 x1] + szR (a.drop (i + 1)) := by rw [hdr]; rfl
    rw [F61.L5.succ, ite'_t (lt_t (by omega)), ite'_t (inR_t (by omega)), eR]
    simp only [Int.toNat_natCast, cellI_at hr, cellB_at hr, cellS_at hr, cellL_at hr]
    simp only [List.getElem?_cons_zero, List.getElem?_cons_succ, Option.bind_some, asI_s, asB_s, asS_s, asL_s, bindI_s, bindB_s, bindS_s, bindL_s, bindR_s, resI_s, resB_s, resS_s, resO_s, bne_self_eq_false, beq_self_eq_true, Bool.not_true]
    have cc := c84 (k := k) (by omega) (a0 := x0) hx1 h0 h1
    rw [cc]
    simp only [List.getElem?_cons_zero, List.getElem?_cons_succ, Option.bind_some, asI_s, asB_s, asS_s, asL_s, bindI_s, bindB_s, bindS_s, bindL_s, bindR_s, resI_s, resB_s, resS_s, resO_s, bne_self_eq_false, beq_self_eq_true, Bool.not_true]
    rcases szT_cases left (szC [.int .i64 x0, .list 1 x1]) with ⟨q, e⟩ | ⟨q, e⟩ <;> rw [e]
    · rw [ite'_f (neg_f (by omega)), wrap_succ (m := a.length) (by omega) (by omega) hlen]
      have := ih (i + 1) n (left - ((szC [.int .i64 x0, .list 1 x1] : Nat) : Int)) (by omega) (by omega) (by omega) (by omega)
      rw [show ((i : Int) + 1) = ((i + 1 : Nat) : Int) by omega, this]
      rcases szT_cases (left - ((szC [.int .i64 x0, .list 1 x1] : Nat) : Int)) (szR (a.drop (i + 1))) with ⟨q2, e2⟩ | ⟨q2, e2⟩ <;> rw [e2]
      · rw [szT_pos (by omega)] <;> (congr 6 <;> omega)
      · rw [szT_neg (by omega)]
    · rw [ite'_t neg_t, szT_neg (by omega)]
theorem c61 {k : Nat} (hk : 2000003 ≤ k) {a : Ovi.Rows} (ha : Fit (.list [.int .i64, .list [.int .i64]]) (.list 2 a)) {left : Int} (h0 : 0 ≤ left) (h1 : left ≤ 1048576) : C k 61 [.d (.list 2 a), .d (.int .i64 left)] = some [(false, [.d (.int .i64 (szT left (szD (.list 2 a))))])] := by
  obtain ⟨k, rfl⟩ : ∃ j, k = j + 1 := ⟨k - 1, by omega⟩
  have hlen := ha.len; unfold maxLen at hlen
  rw [F61.run, wrap_id (by omega) (by omega)]
  have eD : szD (.list 2 a) = a.length + szR a := by simp only [szD]
  rw [eD]
  rcases szT_cases left a.length with ⟨q, e⟩ | ⟨q, e⟩
  · rw [ite'_f (neg_f (by omega))]
    have := l61 (k := k) (by omega) ha a.length 0 k (left - (a.length : Int)) (by omega) (by omega) (by omega) (by omega)
    rw [List.drop_zero] at this
    rw [show ((0 : Int)) = ((0 : Nat) : Int) by rfl, this]
    rcases szT_cases (left - (a.length : Int)) (szR a) with ⟨q2, e2⟩ | ⟨q2, e2⟩ <;> rw [e2]
    · rw [szT_pos (by omega)] <;> (congr 6 <;> omega)
    · rw [szT_neg (by omega)]
  · rw [ite'_t (by simp only [decide_eq_true_eq]; omega), szT_neg (by omega)]
/-- laws.toFactS -/
theorem l63 {k : Nat} (hk : 2000002 ≤ k) {a : Ovi.Rows} (ha : Fit (.list [.int .i64, .list [.int .i64]]) (.list 2 a)) (hs : szR a ≤ 1048576) : ∀ (m i n : Nat) (v : Ovi.Rows), Filled a v i 2 → i + m = a.length → m < n → F63.L3 k (C k) n a (i : Int) v = some [(false, [.row 125 2 a])] := by
  have hlen := ha.len
  intro m; induction m with
  | zero =>
    intro i n v hv hm hn
    obtain ⟨n, rfl⟩ : ∃ j, n = j + 1 := ⟨n - 1, by omega⟩
    obtain rfl : i = a.length := by omega
    rw [F63.L3.succ, ite'_f (lt_f (by omega)), hv.done]
  | succ m ih =>
    intro i n v hv hm hn
    obtain ⟨n, rfl⟩ : ∃ j, n = j + 1 := ⟨n - 1, by omega⟩
    obtain ⟨row, hr, hfr, hdr⟩ := ha.row (i := i) (by omega)
    obtain ⟨d0, rr0, rfl, hd0, hfr0⟩ := Fits.cons hfr
    obtain ⟨x0, rfl, wx0⟩ := hd0.int
    obtain ⟨d1, rr1, rfl, hd1, hfr1⟩ := Fits.cons hfr0
    obtain ⟨x1, rfl, hx1⟩ := hd1.list (n := 1) rfl
    obtain rfl := Fits.nil hfr1
    have hst := hv.step hr rfl
    have hvl := hv.1
    have hszr := szR_at hr
    rw [F63.L3.succ, ite'_t (lt_t (by omega)), ite'_t (inR_t (by omega))]
    simp only [Int.toNat_natCast, cellI_at hr, cellB_at hr, cellS_at hr, cellL_at hr]
    simp only [List.getElem?_cons_zero, List.getElem?_cons_succ, Option.bind_some, asI_s, asB_s, asS_s, asL_s, bindI_s, bindB_s, bindS_s, bindL_s, bindR_s, resI_s, resB_s, resS_s, resO_s, bne_self_eq_false, beq_self_eq_true, Bool.not_true]
    rw [c85 (k := k) (by omega) (a0 := x0) hx1 (by simp only [szC, szD] at hszr ⊢; omega)]
    simp only [List.getElem?_cons_zero, List.getElem?_cons_succ, Option.bind_some, asI_s, asB_s, asS_s, asL_s, bindI_s, bindB_s, bindS_s, bindL_s, bindR_s, resI_s, resB_s, resS_s, resO_s, bne_self_eq_false, beq_self_eq_true, Bool.not_true]
    simp only [F85x0, F85x1]
    simp only [List.getElem?_cons_zero, List.getElem?_cons_succ, Option.bind_some, asI_s, asB_s, asS_s, asL_s, bindI_s, bindB_s, bindS_s, bindL_s, bindR_s, resI_s, resB_s, resS_s, resO_s, bne_self_eq_false, beq_self_eq_true, Bool.not_true]
    rw [ite'_t (inR_t (by omega)), wrap_succ (m := a.length) (by omega) (by omega) hlen]
    rw [show ((i : Int) + 1) = ((i + 1 : Nat) : Int) by omega]
    exact ih (i + 1) n _ hst (by omega) (by omega)
theorem c63 {k : Nat} (hk : 2000003 ≤ k) {a : Ovi.Rows} (ha : Fit (.list [.int .i64, .list [.int .i64]]) (.list 2 a)) (hs : szD (.list 2 a) ≤ 1048576) : C k 63 [.d (.list 2 a)] = some [(false, [.row 125 2 a])] := by
  obtain ⟨k, rfl⟩ : ∃ j, k = j + 1 := ⟨k - 1, by omega⟩
  simp only [szD] at hs
  rw [F63.run, ite'_t (beq_t _), ite'_t (inM_t (by omega))]
  exact l63 (k := k) (by omega) ha (by omega) a.length 0 k _ (Filled.start a _) (by omega) (by omega)
/-- laws.eqFactS -/
theorem l65 {k : Nat} (hk : 2000002 ≤ k) {a : Ovi.Rows} (ha : Fit (.list [.int .i64, .list [.int .i64]]) (.list 2 a)) (hs : szR a ≤ 1048576) : ∀ (m i n : Nat), i + m = a.length → m < n → F65.L4 k (C k) n a a (i : Int) = some [(false, [.d (.bool true)])] := by
  have hlen := ha.len
  intro m; induction m with
  | zero =>
    intro i n hm hn
    obtain ⟨n, rfl⟩ : ∃ j, n = j + 1 := ⟨n - 1, by omega⟩
    rw [F65.L4.succ, ite'_f (lt_f (by omega))]
  | succ m ih =>
    intro i n hm hn
    obtain ⟨n, rfl⟩ : ∃ j, n = j + 1 := ⟨n - 1, by omega⟩
    obtain ⟨row, hr, hfr, hdr⟩ := ha.row (i := i) (by omega)
    obtain ⟨d0, rr0, rfl, hd0, hfr0⟩ := Fits.cons hfr
    obtain ⟨x0, rfl, wx0⟩ := hd0.int
    obtain ⟨d1, rr1, rfl, hd1, hfr1⟩ := Fits.cons hfr0
    obtain ⟨x1, rfl, hx1⟩ := hd1.list (n := 1) rfl
    obtain rfl := Fits.nil hfr1
    have hszr := szR_at hr
    rw [F65.L4.succ, ite'_t (lt_t (by omega)), ite'_t (inR_t (by omega))]
    simp only [Int.toNat_natCast, cellI_at hr, cellB_at hr, cellS_at hr, cellL_at hr]
    simp only [List.getElem?_cons_zero, List.getElem?_cons_succ, Option.bind_some, asI_s, asB_s, asS_s, asL_s, bindI_s, bindB_s, bindS_s, bindL_s, bindR_s, resI_s, resB_s, resS_s, resO_s, bne_self_eq_false, beq_self_eq_true, Bool.not_true]
    rw [ite'_t (inR_t (by omega))]
    rw [c86 (k := k) (by omega) (a0 := x0) hx1 (by simp only [szC, szD] at hszr ⊢; omega)]
    simp only [List.getElem?_cons_zero, List.getElem?_cons_succ, Option.bind_some, asI_s, asB_s, asS_s, asL_s, bindI_s, bindB_s, bindS_s, bindL_s, bindR_s, resI_s, resB_s, resS_s, resO_s, bne_self_eq_false, beq_self_eq_true, Bool.not_true]
    rw [ite'_f rfl, wrap_succ (m := a.length) (by omega) (by omega) hlen]
    rw [show ((i : Int) + 1) = ((i + 1 : Nat) : Int) by omega]
    exact ih (i + 1) n (by omega) (by omega)
theorem c65 {k : Nat} (hk : 2000003 ≤ k) {a : Ovi.Rows} (ha : Fit (.list [.int .i64, .list [.int .i64]]) (.list 2 a)) (hs : szD (.list 2 a) ≤ 1048576) : C k 65 [.d (.list 2 a), .d (.list 2 a)] = some [(false, [.d (.bool true)])] := by
  obtain ⟨k, rfl⟩ : ∃ j, k = j + 1 := ⟨k - 1, by omega⟩
  simp only [szD] at hs
  rw [F65.run, ite'_f (bne_f _)]
  exact l65 (k := k) (by omega) ha (by omega) a.length 0 k (by omega) (by omega)
/-- laws.szInstance -/
theorem c30 {k : Nat} (hk : 2000004 ≤ k) {a0 : Ovi.Rows} (ha0 : Fit (.list [.str, .int .i64, .bool]) (.list 3 a0)) {a1 : Ovi.Rows} (ha1 : Fit (.list [.int .i64, .list [.int .i64]]) (.list 2 a1)) {left : Int} (h0 : 0 ≤ left) (h1 : left ≤ 1048576) : C k 30 [.agg [.d (.list 3 a0), .d (.list 2 a1)], .d (.int .i64 left)] = some [(false, [.d (.int .i64 (szT left (szC [.list 3 a0, .list 2 a1])))])] := by
  obtain ⟨k, rfl⟩ : ∃ j, k = j + 1 := ⟨k - 1, by omega⟩
  have eT : szC [.list 3 a0, .list 2 a1] = (szD (.list 3 a0)) + (szD (.list 2 a1)) := by simp only [szC, szD] <;> omega
  rw [eT, F30.run]
  rw [c16 (k := k) (by omega)  ha0 (left := left) (by omega) (by omega)]
  simp only [List.getElem?_cons_zero, List.getElem?_cons_succ, Option.bind_some, asI_s, asB_s, asS_s, asL_s, bindI_s, bindB_s, bindS_s, bindL_s, bindR_s, resI_s, resB_s, resS_s, resO_s, bne_self_eq_false, beq_self_eq_true, Bool.not_true]
  rcases szT_cases (left) (szD (.list 3 a0)) with ⟨q0, e0⟩ | ⟨q0, e0⟩ <;> rw [e0]
  rotate_left
  · rw [ite'_t (by simp only [decide_eq_true_eq]; omega)] <;> first | rfl | rw [szT_neg (by omega)]
  rw [ite'_f (neg_f (by omega))]
  rw [c61 (k := k) (by omega)  ha1 (left := left - ((szD (.list 3 a0) : Nat) : Int)) (by omega) (by omega)]
  simp only [List.getElem?_cons_zero, List.getElem?_cons_succ, Option.bind_some, asI_s, asB_s, asS_s, asL_s, bindI_s, bindB_s, bindS_s, bindL_s, bindR_s, resI_s, resB_s, resS_s, resO_s, bne_self_eq_false, beq_self_eq_true, Bool.not_true]
  rcases szT_cases (left - ((szD (.list 3 a0) : Nat) : Int)) (szD (.list 2 a1)) with ⟨q1, e1⟩ | ⟨q1, e1⟩ <;> rw [e1]
  rotate_left
  · rw [ite'_t (by simp only [decide_eq_true_eq]; omega)] <;> first | rfl | rw [szT_neg (by omega)]
  rw [ite'_f (neg_f (by omega))] <;> first | rfl | (rw [szT_pos (by omega)] <;> (congr 6 <;> omega))
/-- laws.toInstance -/
theorem F34x0 {a0 : Ovi.Rows} {a1 : Ovi.Rows} : resO 83 3 1 true 2 [(true, [.row 83 3 a0, .row 125 2 a1])] 0 0 = some a0 := rfl
theorem F34x1 {a0 : Ovi.Rows} {a1 : Ovi.Rows} : resO 125 2 1 true 2 [(true, [.row 83 3 a0, .row 125 2 a1])] 0 1 = some a1 := rfl
theorem c34 {k : Nat} (hk : 2000004 ≤ k) {a0 : Ovi.Rows} (ha0 : Fit (.list [.str, .int .i64, .bool]) (.list 3 a0)) {a1 : Ovi.Rows} (ha1 : Fit (.list [.int .i64, .list [.int .i64]]) (.list 2 a1)) (s0 : szD (.list 3 a0) ≤ 1048576) (s1 : szD (.list 2 a1) ≤ 1048576) : C k 34 [.agg [.d (.list 3 a0), .d (.list 2 a1)]] = some [(true, [.row 83 3 a0, .row 125 2 a1])] := by
  obtain ⟨k, rfl⟩ : ∃ j, k = j + 1 := ⟨k - 1, by omega⟩
  rw [F34.run]
  rw [c19 (k := k) (by omega)  ha0 s0]
  simp only [List.getElem?_cons_zero, List.getElem?_cons_succ, Option.bind_some, asI_s, asB_s, asS_s, asL_s, bindI_s, bindB_s, bindS_s, bindL_s, bindR_s, resI_s, resB_s, resS_s, resO_s, bne_self_eq_false, beq_self_eq_true, Bool.not_true]
  rw [c63 (k := k) (by omega)  ha1 s1]
  simp only [List.getElem?_cons_zero, List.getElem?_cons_succ, Option.bind_some, asI_s, asB_s, asS_s, asL_s, bindI_s, bindB_s, bindS_s, bindL_s, bindR_s, resI_s, resB_s, resS_s, resO_s, bne_self_eq_false, beq_self_eq_true, Bool.not_true]
/-- laws.eqInstance -/
theorem c38 {k : Nat} (hk : 2000004 ≤ k) {a0 : Ovi.Rows} (ha0 : Fit (.list [.str, .int .i64, .bool]) (.list 3 a0)) {a1 : Ovi.Rows} (ha1 : Fit (.list [.int .i64, .list [.int .i64]]) (.list 2 a1)) (s0 : szD (.list 3 a0) ≤ 1048576) (s1 : szD (.list 2 a1) ≤ 1048576) : C k 38 [.agg [.d (.list 3 a0), .d (.list 2 a1)], .agg [.d (.list 3 a0), .d (.list 2 a1)]] = some [(false, [.d (.bool true)])] := by
  obtain ⟨k, rfl⟩ : ∃ j, k = j + 1 := ⟨k - 1, by omega⟩
  rw [F38.run]
  rw [c22 (k := k) (by omega)  ha0 s0]
  rw [c65 (k := k) (by omega)  ha1 s1]
  simp only [List.getElem?_cons_zero, List.getElem?_cons_succ, Option.bind_some, asI_s, asB_s, asS_s, asL_s, bindI_s, bindB_s, bindS_s, bindL_s, bindR_s, resI_s, resB_s, resS_s, resO_s, bne_self_eq_false, beq_self_eq_true, Bool.not_true]
  rfl
/-- laws.szChaseResult -/
theorem c11 {k : Nat} (hk : 2000005 ≤ k) {a0 : Ovi.Rows} (ha0 : Fit (.list [.str, .int .i64, .bool]) (.list 3 a0)) {a1 : Ovi.Rows} (ha1 : Fit (.list [.int .i64, .list [.int .i64]]) (.list 2 a1)) {a2 : Int} {a3 : Ovi.Rows} (ha3 : Fit (.list [.int .i64, .list [.int .i64]]) (.list 2 a3)) {left : Int} (h0 : 0 ≤ left) (h1 : left ≤ 1048576) : C k 11 [.agg [.d (.list 3 a0), .d (.list 2 a1), .d (.int .i64 a2), .d (.list 2 a3)], .d (.int .i64 left)] = some [(false, [.d (.int .i64 (szT left (szC [.list 3 a0, .list 2 a1, .int .i64 a2, .list 2 a3])))])] := by
  obtain ⟨k, rfl⟩ : ∃ j, k = j + 1 := ⟨k - 1, by omega⟩
  have eT : szC [.list 3 a0, .list 2 a1, .int .i64 a2, .list 2 a3] = (szC [.list 3 a0, .list 2 a1]) + (szD (.list 2 a3)) := by simp only [szC, szD] <;> omega
  rw [eT, F11.run]
  rw [c30 (k := k) (by omega)  ha0 ha1 (left := left) (by omega) (by omega)]
  simp only [List.getElem?_cons_zero, List.getElem?_cons_succ, Option.bind_some, asI_s, asB_s, asS_s, asL_s, bindI_s, bindB_s, bindS_s, bindL_s, bindR_s, resI_s, resB_s, resS_s, resO_s, bne_self_eq_false, beq_self_eq_true, Bool.not_true]
  rcases szT_cases (left) (szC [.list 3 a0, .list 2 a1]) with ⟨q0, e0⟩ | ⟨q0, e0⟩ <;> rw [e0]
  rotate_left
  · rw [ite'_t (by simp only [decide_eq_true_eq]; omega)] <;> first | rfl | rw [szT_neg (by omega)]
  rw [ite'_f (neg_f (by omega))]
  rw [c31 (k := k) (by omega)  ha3 (left := left - ((szC [.list 3 a0, .list 2 a1] : Nat) : Int)) (by omega) (by omega)]
  simp only [List.getElem?_cons_zero, List.getElem?_cons_succ, Option.bind_some, asI_s, asB_s, asS_s, asL_s, bindI_s, bindB_s, bindS_s, bindL_s, bindR_s, resI_s, resB_s, resS_s, resO_s, bne_self_eq_false, beq_self_eq_true, Bool.not_true]
  rcases szT_cases (left - ((szC [.list 3 a0, .list 2 a1] : Nat) : Int)) (szD (.list 2 a3)) with ⟨q1, e1⟩ | ⟨q1, e1⟩ <;> rw [e1]
  rotate_left
  · rw [ite'_t (by simp only [decide_eq_true_eq]; omega)] <;> first | rfl | rw [szT_neg (by omega)]
  rw [ite'_f (neg_f (by omega))] <;> first | rfl | (rw [szT_pos (by omega)] <;> (congr 6 <;> omega))
/-- laws.toChaseResult -/
theorem F13x0 {a0 : Ovi.Rows} {a1 : Ovi.Rows} {a2 : Int} {a3 : Ovi.Rows} : resO 83 3 1 true 4 [(true, [.row 83 3 a0, .row 125 2 a1, .d (.int .i64 a2), .row 72 2 a3])] 0 0 = some a0 := rfl
theorem F13x1 {a0 : Ovi.Rows} {a1 : Ovi.Rows} {a2 : Int} {a3 : Ovi.Rows} : resO 125 2 1 true 4 [(true, [.row 83 3 a0, .row 125 2 a1, .d (.int .i64 a2), .row 72 2 a3])] 0 1 = some a1 := rfl
theorem F13x2 {a0 : Ovi.Rows} {a1 : Ovi.Rows} {a2 : Int} {a3 : Ovi.Rows} : resI .i64 1 true 4 [(true, [.row 83 3 a0, .row 125 2 a1, .d (.int .i64 a2), .row 72 2 a3])] 0 2 = some a2 := rfl
theorem F13x3 {a0 : Ovi.Rows} {a1 : Ovi.Rows} {a2 : Int} {a3 : Ovi.Rows} : resO 72 2 1 true 4 [(true, [.row 83 3 a0, .row 125 2 a1, .d (.int .i64 a2), .row 72 2 a3])] 0 3 = some a3 := rfl
theorem c13 {k : Nat} (hk : 2000005 ≤ k) {a0 : Ovi.Rows} (ha0 : Fit (.list [.str, .int .i64, .bool]) (.list 3 a0)) {a1 : Ovi.Rows} (ha1 : Fit (.list [.int .i64, .list [.int .i64]]) (.list 2 a1)) {a2 : Int} {a3 : Ovi.Rows} (ha3 : Fit (.list [.int .i64, .list [.int .i64]]) (.list 2 a3)) (s0 : szD (.list 3 a0) ≤ 1048576) (s1 : szD (.list 2 a1) ≤ 1048576) (s3 : szD (.list 2 a3) ≤ 1048576) : C k 13 [.agg [.d (.list 3 a0), .d (.list 2 a1), .d (.int .i64 a2), .d (.list 2 a3)]] = some [(true, [.row 83 3 a0, .row 125 2 a1, .d (.int .i64 a2), .row 72 2 a3])] := by
  obtain ⟨k, rfl⟩ : ∃ j, k = j + 1 := ⟨k - 1, by omega⟩
  rw [F13.run]
  rw [c34 (k := k) (by omega)  ha0 ha1 s0 s1]
  simp only [List.getElem?_cons_zero, List.getElem?_cons_succ, Option.bind_some, asI_s, asB_s, asS_s, asL_s, bindI_s, bindB_s, bindS_s, bindL_s, bindR_s, resI_s, resB_s, resS_s, resO_s, bne_self_eq_false, beq_self_eq_true, Bool.not_true]
  simp only [F34x0, F34x1]
  simp only [List.getElem?_cons_zero, List.getElem?_cons_succ, Option.bind_some, asI_s, asB_s, asS_s, asL_s, bindI_s, bindB_s, bindS_s, bindL_s, bindR_s, resI_s, resB_s, resS_s, resO_s, bne_self_eq_false, beq_self_eq_true, Bool.not_true]
  rw [c35 (k := k) (by omega)  ha3 s3]
  simp only [List.getElem?_cons_zero, List.getElem?_cons_succ, Option.bind_some, asI_s, asB_s, asS_s, asL_s, bindI_s, bindB_s, bindS_s, bindL_s, bindR_s, resI_s, resB_s, resS_s, resO_s, bne_self_eq_false, beq_self_eq_true, Bool.not_true]
/-- laws.eqChaseResult -/
theorem c15 {k : Nat} (hk : 2000005 ≤ k) {a0 : Ovi.Rows} (ha0 : Fit (.list [.str, .int .i64, .bool]) (.list 3 a0)) {a1 : Ovi.Rows} (ha1 : Fit (.list [.int .i64, .list [.int .i64]]) (.list 2 a1)) {a2 : Int} {a3 : Ovi.Rows} (ha3 : Fit (.list [.int .i64, .list [.int .i64]]) (.list 2 a3)) (s0 : szD (.list 3 a0) ≤ 1048576) (s1 : szD (.list 2 a1) ≤ 1048576) (s3 : szD (.list 2 a3) ≤ 1048576) : C k 15 [.agg [.d (.list 3 a0), .d (.list 2 a1), .d (.int .i64 a2), .d (.list 2 a3)], .agg [.d (.list 3 a0), .d (.list 2 a1), .d (.int .i64 a2), .d (.list 2 a3)]] = some [(false, [.d (.bool true)])] := by
  obtain ⟨k, rfl⟩ : ∃ j, k = j + 1 := ⟨k - 1, by omega⟩
  rw [F15.run]
  rw [c38 (k := k) (by omega)  ha0 ha1 s0 s1]
  rw [c39 (k := k) (by omega)  ha3 s3]
  simp only [List.getElem?_cons_zero, List.getElem?_cons_succ, Option.bind_some, asI_s, asB_s, asS_s, asL_s, bindI_s, bindB_s, bindS_s, bindL_s, bindR_s, resI_s, resB_s, resS_s, resO_s, bne_self_eq_false, beq_self_eq_true, Bool.not_true]
  rfl
end Go.Proofs.YtekcjghbfbfmpaaDoor.Q

/-! DIc -/
namespace Go.Proofs.YtekcjghbfbfmpaaDoor.Q
open Go Ovi
/-! ### steps as texts -/
def bv (z : Int) : List UInt8 := cond (fv z == []) [45] (fv z)
theorem bv_len (z : Int) : (bv z).length ≤ 3 := by
  have := fv_len z
  unfold bv
  cases fv z == [] <;> simp <;> omega
def stepT (x : Atom) : List UInt8 := Lib.itoa x.1 ++ [58] ++ Lib.join (x.2.map bv) [44]
theorem bvs_len (zs : List Int) : (Lib.join (zs.map bv) [44]).length ≤ 4 * zs.length := by
  have := join_len (zs.map bv) [44] 4 (fun x hx => by
    obtain ⟨z, _, rfl⟩ := List.mem_map.1 hx
    have := bv_len z
    simp; omega)
  rwa [List.length_map] at this
theorem itoa_len {z : Int} (h : inI z) : (Lib.itoa z).length ≤ 21 := Lib.itoa_length_le z h.1 h.2
theorem stepT_len {x : Atom} (h : inI x.1) : (stepT x).length ≤ 22 + 4 * x.2.length := by
  have h1 := itoa_len h
  have h2 := bvs_len x.2
  simp only [stepT, List.length_append, List.length_cons, List.length_nil]
  omega
def codeT (c : Int) : List UInt8 := if c = 1 then [100, 111, 110, 101] else if c = 2 then [102, 97, 105, 108] else if c = 3 then [111, 118, 101, 114] else []
theorem codeT_len (c : Int) : (codeT c).length ≤ 4 := by unfold codeT; split <;> (try split) <;> (try split) <;> simp
def resT (c : Int) (xs : List Atom) : List UInt8 := Lib.join (codeT c :: xs.map stepT) [32]
variable {k : Nat}
theorem c36 (hk : 2 ≤ k) (c : Int) : C k 36 [.d (.int .i64 c)] = some [(false, [.d (.str (codeT c))])] := by
  obtain ⟨k, rfl⟩ : ∃ j, k = j + 1 := ⟨k - 1, by omega⟩
  rw [F36.run]
  unfold codeT
  by_cases h1 : c = 1
  · rw [ite'_t (by simpa using h1), if_pos h1]
  · rw [ite'_f (by simpa using h1), if_neg h1]
    by_cases h2 : c = 2
    · rw [ite'_t (by simpa using h2), if_pos h2]
    · rw [ite'_f (by simpa using h2), if_neg h2]
      by_cases h3 : c = 3
      · rw [ite'_t (by simpa using h3), if_pos h3]
      · rw [ite'_f (by simpa using h3), if_neg h3]
theorem c32 (hk : 2 ≤ k) (c : Int) : C k 32 [.d (.int .i64 c)] = some [(false, [.d (.str (codeT c))])] := by
  obtain ⟨k, rfl⟩ : ∃ j, k = j + 2 := ⟨k - 2, by omega⟩
  rw [F32.run, F54.run]
  unfold codeT
  by_cases h0 : c ≥ 1
  · rw [ite'_t (by simpa using h0), bindR_s, resB_s, bindB_s]
    by_cases h4 : c ≤ 3
    · rw [ite'_f (by simpa using h4)]
      have h : c = 1 ∨ c = 2 ∨ c = 3 := by omega
      rcases h with rfl | rfl | rfl <;> rfl
    · rw [ite'_t (by simpa using h4), if_neg (by omega), if_neg (by omega), if_neg (by omega)]
  · rw [ite'_f (by simpa using h0), bindR_s, resB_s, bindB_s, ite'_nf, if_neg (by omega), if_neg (by omega), if_neg (by omega)]
theorem cellI_I1' {zs : List Int} {j : Nat} (h : j < zs.length) : cellI .i64 (I1 zs) (j : Int).toNat 0 = some zs[j] := by
  rw [Int.toNat_natCast, cellI_at (I1_get' (List.getElem?_eq_getElem h))]
  simp [asI_s]
section
variable (hk : 200 ≤ k) {x : Atom} (h1 : inI x.1) (h2 : ∀ z ∈ x.2, inI z) (hz : x.2.length ≤ 1048576)
include hk h2 hz
theorem l33 : ∀ (m j n : Nat) (acc : List UInt8), j + m = x.2.length → m < n → (acc ++ rest (x.2.map bv) [44] j).length ≤ 8388608 →
    F33.L3 k (C k) n acc j x.1 (I1 x.2) = some [(false, [.d (.str (acc ++ rest (x.2.map bv) [44] j))])] := by
  intro m
  induction m with
  | zero =>
    intro j n acc hm hn hl
    obtain ⟨n, rfl⟩ : ∃ q, n = q + 1 := ⟨n - 1, by omega⟩
    obtain rfl : j = x.2.length := by omega
    have he : rest (x.2.map bv) [44] x.2.length = [] := by have := rest_end (xs := x.2.map bv) (sep := [44]); rwa [List.length_map] at this
    rw [he, F33.L3.succ, I1_len, ite'_f (lt_f (by omega)), List.append_nil]
  | succ m ih =>
    intro j n acc hm hn hl
    obtain ⟨n, rfl⟩ : ∃ q, n = q + 1 := ⟨n - 1, by omega⟩
    have hj : j < x.2.length := by omega
    have hg := List.getElem?_eq_getElem hj
    have hgz : inI x.2[j] := h2 _ (List.getElem_mem hj)
    have hgf : (x.2.map bv)[j]? = some (bv x.2[j]) := by simp [hg]
    have hw := next_i (m := x.2.length) hj (by unfold maxLen; omega)
    rw [F33.L3.succ, I1_len, ite'_t (lt_t hj)]
    by_cases h0 : j = 0
    · subst h0
      rw [rest_first hgf] at hl ⊢
      have hl' : (acc ++ bv x.2[0]).length ≤ 8388608 := by simp only [List.length_append] at hl ⊢; omega
      have go : F33.L3 k (C k) n (acc ++ bv x.2[0]) ((0 + 1 : Nat) : Int) x.1 (I1 x.2) = some [(false, [.d (.str (acc ++ (bv x.2[0] ++ rest (x.2.map bv) [44] 1)))])] := by
        rw [ih 1 n _ (by omega) (by omega) (by rw [List.append_assoc]; exact hl), List.append_assoc]
      rw [ite'_f (by simp), ite'_t (inR_t hj), cellI_I1' hj, bindI_s, c25 (by omega) hgz, bindR_s, resS_s, bindS_s, hw]
      cases hb : (fv x.2[0] == []) with
      | true =>
        have e : bv x.2[0] = [45] := by unfold bv; rw [hb]; rfl
        rw [e] at go hl'
        rw [ite'_t rfl, ite'_t (fits_t (by simp only [List.length_append, List.length_cons, List.length_nil] at hl'; omega)), go, e]
      | false =>
        have e : bv x.2[0] = fv x.2[0] := by unfold bv; rw [hb]; rfl
        rw [e] at go hl'
        rw [ite'_f rfl, ite'_t (fits_t (by simp only [List.length_append] at hl'; omega)), go, e]
    · rw [rest_next (by omega) hgf] at hl ⊢
      have hl' : (acc ++ [44] ++ bv x.2[j]).length ≤ 8388608 := by simp only [List.length_append] at hl ⊢; omega
      have go : F33.L3 k (C k) n (acc ++ [44] ++ bv x.2[j]) ((j + 1 : Nat) : Int) x.1 (I1 x.2) = some [(false, [.d (.str (acc ++ ([44] ++ bv x.2[j] ++ rest (x.2.map bv) [44] (j + 1))))])] := by
        rw [ih (j + 1) n _ (by omega) (by omega) (by simpa only [List.append_assoc] using hl)]
        simp only [List.append_assoc]
      rw [ite'_t (by simp only [decide_eq_true_eq]; omega), ite'_t (fits_t (by simp at hl'; omega)), ite'_t (inR_t hj), cellI_I1' hj, bindI_s, c25 (by omega) hgz, bindR_s, resS_s, bindS_s, hw]
      cases hb : (fv x.2[j] == []) with
      | true =>
        have e : bv x.2[j] = [45] := by unfold bv; rw [hb]; rfl
        rw [e] at go hl'
        rw [ite'_t rfl, ite'_t (fits_t (by simp only [List.length_append, List.length_cons, List.length_nil] at hl' ⊢; omega)), go, e]
      | false =>
        have e : bv x.2[j] = fv x.2[j] := by unfold bv; rw [hb]; rfl
        rw [e] at go hl'
        rw [ite'_f rfl, ite'_t (fits_t (by simp only [List.length_append] at hl' ⊢; omega)), go, e]
include h1
theorem c33 (hkk : 2000000 ≤ k) : C (k + 1) 33 [.agg [.d (.int .i64 x.1), .d (.list 1 (I1 x.2))]] = some [(false, [.d (.str (stepT x))])] := by
  have e1 := itoa_len h1
  have e2 := bvs_len x.2
  rw [F33.run, c53 (by omega) h1, bindR_s, resS_s, bindS_s, ite'_t (fits_t (by omega)), show ((0 : Int)) = ((0 : Nat) : Int) from rfl]
  rw [l33 hk h2 hz x.2.length 0 k _ (by omega) (by omega) (by rw [rest_zero]; simp only [List.length_append, List.length_cons, List.length_nil]; omega)]
  rfl
theorem l37 : ∀ (m j n : Nat), j + m = x.2.length → m < n →
    F37.L3 k (C k) n (I1 x.2) (x.2.length : Nat) j x.1 (I1 x.2) (T1 ((x.2.take j).map bv)) = some [(false, [.d (.str (stepT x))])] := by
  have e1 := itoa_len h1
  have e2 := bvs_len x.2
  intro m
  induction m with
  | zero =>
    intro j n hm hn
    obtain ⟨n, rfl⟩ : ∃ q, n = q + 1 := ⟨n - 1, by omega⟩
    obtain rfl : j = x.2.length := by omega
    obtain ⟨k, rfl⟩ : ∃ q, k = q + 1 := ⟨k - 1, by omega⟩
    rw [F37.L3.succ, ite'_f (lt_f (by omega)), c57i (by omega) h1, bindR_s, resS_s, bindS_s, ite'_t (fits_t (by omega)), List.take_length, c28 k (by simp; omega) (by omega), bindR_s, resS_s, bindS_s, ite'_t (fits_t (by simp; omega))]
    rfl
  | succ m ih =>
    intro j n hm hn
    obtain ⟨n, rfl⟩ : ∃ q, n = q + 1 := ⟨n - 1, by omega⟩
    have hj : j < x.2.length := by omega
    have hg := List.getElem?_eq_getElem hj
    have hgz : inI x.2[j] := h2 _ (List.getElem_mem hj)
    have hw := next_i (m := x.2.length) hj (by unfold maxLen; omega)
    have ht : (x.2.take j).map bv ++ [bv x.2[j]] = (x.2.take (j + 1)).map bv := by
      rw [List.take_succ_eq_append_getElem hj, List.map_append]; rfl
    have go := ih (j + 1) n (by omega) (by omega)
    rw [← ht, ← T1_snoc] at go
    rw [F37.L3.succ, ite'_t (lt_t hj), I1_len, ite'_t (inR_t hj), cellI_I1' hj, bindI_s, c27 (by omega) hgz, bindR_s, resS_s, bindS_s, hw]
    cases hb : (fv x.2[j] == []) with
    | true =>
      have e : bv x.2[j] = [45] := by unfold bv; rw [hb]; rfl
      rw [e] at go
      rw [ite'_t rfl, ite'_t (fits_t (by simp [T1_len]; omega))]
      exact go
    | false =>
      have e : bv x.2[j] = fv x.2[j] := by unfold bv; rw [hb]; rfl
      rw [e] at go
      rw [ite'_f rfl, ite'_t (fits_t (by simp [T1_len]; omega))]
      exact go
theorem c37 (hkk : 2000000 ≤ k) : C (k + 1) 37 [.agg [.d (.int .i64 x.1), .d (.list 1 (I1 x.2))]] = some [(false, [.d (.str (stepT x))])] := by
  rw [F37.run, I1_len]
  exact l37 hk h1 h2 hz x.2.length 0 k (by omega) (by omega)
end
/-! ### results as texts -/
section
variable (hk : 2000000 ≤ k) {xs : List Atom} (hx : ∀ x ∈ xs, inI x.1 ∧ ∀ z ∈ x.2, inI z) (hz : ∀ x ∈ xs, x.2.length ≤ 1048576) (hn : xs.length ≤ 1048576)
include hk hx hz hn
theorem l12 (r f : Ovi.Rows) (c : Int) : ∀ (m i n : Nat) (acc : List UInt8), i + m = xs.length → m < n → (acc ++ Lib.joinTail [32] ((xs.drop i).map stepT)).length ≤ 40000000 →
    F12.L3 (k + 1) (C (k + 1)) n acc i r f c (A1 xs) = some [(false, [.d (.str (acc ++ Lib.joinTail [32] ((xs.drop i).map stepT)))])] := by
  intro m
  induction m with
  | zero =>
    intro i n acc hm hn' hl
    obtain ⟨n, rfl⟩ : ∃ q, n = q + 1 := ⟨n - 1, by omega⟩
    obtain rfl : i = xs.length := by omega
    rw [F12.L3.succ, A1_len, ite'_f (lt_f (by omega)), List.drop_length]
    simp [Lib.joinTail]
  | succ m ih =>
    intro i n acc hm hn' hl
    obtain ⟨n, rfl⟩ : ∃ q, n = q + 1 := ⟨n - 1, by omega⟩
    have hi : i < xs.length := by omega
    have hg := List.getElem?_eq_getElem hi
    have hmem := List.getElem_mem hi
    have hcI : cellI .i64 (A1 xs) (i : Int).toNat 0 = some xs[i].1 := by
      rw [Int.toNat_natCast, cellI_at (A1_get hg)]; simp [asI_s]
    have hcL : cellL 1 (A1 xs) (i : Int).toNat 1 = some (I1 xs[i].2) := by
      rw [Int.toNat_natCast, cellL_at (A1_get hg)]; simp [asL_s]
    have e : Lib.joinTail [32] ((xs.drop i).map stepT) = [32] ++ stepT xs[i] ++ Lib.joinTail [32] ((xs.drop (i + 1)).map stepT) := by
      unfold Lib.joinTail
      rw [List.drop_eq_getElem_cons hi, List.map_cons, List.map_cons, List.flatten_cons]
    rw [e] at hl ⊢
    have hl' : (acc ++ [32] ++ stepT xs[i]).length ≤ 40000000 := by simp only [List.length_append] at hl ⊢; omega
    rw [F12.L3.succ, A1_len, ite'_t (lt_t hi), ite'_t (fits_t (by simp at hl'; omega)), ite'_t (inR_t hi), hcI, bindI_s, hcL, bindL_s, c33 (by omega) (hx _ hmem).1 (hx _ hmem).2 (hz _ hmem) (by omega), bindR_s, resS_s, bindS_s, ite'_t (fits_t (by simp only [List.length_append] at hl' ⊢; omega)), next_i (m := xs.length) hi (by unfold maxLen; omega)]
    rw [ih (i + 1) n _ (by omega) (by omega) (by simpa only [List.append_assoc] using hl)]
    simp only [List.append_assoc]
theorem c12 (r f : Ovi.Rows) (c : Int) (hb : (resT c xs).length ≤ 40000000) : C (k + 2) 12 [.agg [.d (.list 3 r), .d (.list 2 f), .d (.int .i64 c), .d (.list 2 (A1 xs))]] = some [(false, [.d (.str (resT c xs))])] := by
  have e : resT c xs = codeT c ++ Lib.joinTail [32] (xs.map stepT) := Lib.join_cons _ _ _
  rw [e] at hb ⊢
  rw [F12.run, c32 (by omega), bindR_s, resS_s, bindS_s, show ((0 : Int)) = ((0 : Nat) : Int) from rfl, l12 hk hx hz hn r f c xs.length 0 (k + 1) _ (by omega) (by omega) (by simpa using hb)]
  simp
theorem l14 (c : Int) (hb : (resT c xs).length ≤ 40000000) : ∀ (m i n : Nat), i + m = xs.length → m < n →
    F14.L3 (k + 1) (C (k + 1)) n (A1 xs) (xs.length : Nat) i (T1 (codeT c :: (xs.take i).map stepT)) = some [(false, [.d (.str (resT c xs))])] := by
  intro m
  induction m with
  | zero =>
    intro i n hm hn'
    obtain ⟨n, rfl⟩ : ∃ q, n = q + 1 := ⟨n - 1, by omega⟩
    obtain rfl : i = xs.length := by omega
    unfold resT at hb
    rw [F14.L3.succ, ite'_f (lt_f (by omega)), List.take_length, c28 k (by simp; omega) (by omega), bindR_s, resS_s, bindS_s]
    rfl
  | succ m ih =>
    intro i n hm hn'
    obtain ⟨n, rfl⟩ : ∃ q, n = q + 1 := ⟨n - 1, by omega⟩
    have hi : i < xs.length := by omega
    have hg := List.getElem?_eq_getElem hi
    have hmem := List.getElem_mem hi
    have hcI : cellI .i64 (A1 xs) (i : Int).toNat 0 = some xs[i].1 := by
      rw [Int.toNat_natCast, cellI_at (A1_get hg)]; simp [asI_s]
    have hcL : cellL 1 (A1 xs) (i : Int).toNat 1 = some (I1 xs[i].2) := by
      rw [Int.toNat_natCast, cellL_at (A1_get hg)]; simp [asL_s]
    have ht : (codeT c :: (xs.take i).map stepT) ++ [stepT xs[i]] = codeT c :: (xs.take (i + 1)).map stepT := by
      rw [List.take_succ_eq_append_getElem hi, List.map_append]; rfl
    rw [F14.L3.succ, ite'_t (lt_t hi), ite'_t (inR_t (by rw [A1_len]; exact hi)), hcI, bindI_s, hcL, bindL_s, c37 (by omega) (hx _ hmem).1 (hx _ hmem).2 (hz _ hmem) (by omega), bindR_s, resS_s, bindS_s, ite'_t (fits_t (by simp [T1_len]; omega)), T1_snoc, ht, next_i (m := xs.length) hi (by unfold maxLen; omega)]
    exact ih (i + 1) n (by omega) (by omega)
theorem c14 (r f : Ovi.Rows) (c : Int) (hb : (resT c xs).length ≤ 40000000) : C (k + 2) 14 [.agg [.d (.list 3 r), .d (.list 2 f), .d (.int .i64 c), .d (.list 2 (A1 xs))]] = some [(false, [.d (.str (resT c xs))])] := by
  rw [F14.run, c36 (by omega), bindR_s, resS_s, bindS_s, A1_len]
  exact l14 hk hx hz hn c hb xs.length 0 (k + 1) (by omega) (by omega)
end
theorem resT_len {c : Int} {xs : List Atom} (hx : ∀ x ∈ xs, inI x.1) (hs : szD (.list 2 (A1 xs)) ≤ 1048576) : (resT c xs).length ≤ 40000000 := by
  have e : resT c xs = codeT c ++ Lib.joinTail [32] (xs.map stepT) := Lib.join_cons _ _ _
  rw [szD, szR_A1, A1_len] at hs
  have key : ∀ xs : List Atom, (∀ x ∈ xs, inI x.1) → (Lib.joinTail [32] (xs.map stepT)).length ≤ 23 * (xs.length + (xs.map fun x => x.2.length).sum) := by
    intro xs
    induction xs with
    | nil => intro _; simp [Lib.joinTail]
    | cons x xs ih =>
      intro hx
      have h1 := stepT_len (hx x List.mem_cons_self)
      have h2 := ih (fun y hy => hx y (List.mem_cons_of_mem _ hy))
      simp only [Lib.joinTail, List.map_cons, List.flatten_cons, List.length_append, List.length_cons, List.length_nil, List.sum_cons] at h2 ⊢
      omega
  have h1 := key xs hx
  have h2 := codeT_len c
  rw [e, List.length_append]
  omega
/-- the law -/
theorem law4 (hk : 3000000 ≤ k) {a b c : Ovi.Rows} {z : Int} (h1 : Fit (.list [.str, .int .i64, .bool]) (.list 3 a)) (h2 : Fit (.list [.int .i64, .list [.int .i64]]) (.list 2 b)) (h3 : Fit (.list [.int .i64, .list [.int .i64]]) (.list 2 c)) : C k 4 [.agg [.d (.list 3 a), .d (.list 2 b), .d (.int .i64 z), .d (.list 2 c)]] = some yes := by
  obtain ⟨k, rfl⟩ : ∃ j, k = j + 3 := ⟨k - 3, by omega⟩
  rw [F4.run, c11 (k := k + 2) (by omega) h1 h2 h3 (by omega) (by omega)]
  simp only [bindR_s, resI_s, bindI_s]
  rcases szT_cases 1048576 (szC [.list 3 a, .list 2 b, .int .i64 z, .list 2 c]) with ⟨q, e⟩ | ⟨q, e⟩ <;> rw [e]
  rotate_left
  · rw [ite'_t neg_t]; rfl
  have q2 := q
  simp only [szC] at q2
  have s0 : szD (.list 3 a) ≤ 1048576 := by omega
  have s1 : szD (.list 2 b) ≤ 1048576 := by omega
  have s2 : szD (.list 2 c) ≤ 1048576 := by omega
  rw [ite'_f (neg_f (by omega)), c13 (k := k + 2) (by omega) h1 h2 h3 s0 s1 s2]
  simp only [bindR_s, F13x0, F13x1, F13x2, F13x3, bindL_s, bindI_s]
  obtain ⟨xs, rfl, hx⟩ := h3.atoms'
  have hb := resT_len (c := z) (fun x hx' => (hx x hx').1) s2
  have s2' := s2
  rw [szD, szR_A1, A1_len] at s2'
  have hz : ∀ x ∈ xs, x.2.length ≤ 1048576 := by
    intro x hx'
    have : x.2.length ≤ (xs.map fun x => x.2.length).sum := by
      clear s2 s2' hb hx h3 q q2 e
      induction xs with
      | nil => cases hx'
      | cons y xs ih =>
        rcases List.mem_cons.1 hx' with rfl | h
        · simp
        · have := ih h; simp; omega
    omega
  rw [c12 (by omega) hx hz (by omega) a b z hb, c14 (by omega) hx hz (by omega) a b z hb]
  simp only [bindR_s, resS_s, bindS_s]
  rw [ite'_f (by simp), c15 (k := k + 2) (by omega) h1 h2 h3 s0 s1 s2]
  rfl
end Go.Proofs.YtekcjghbfbfmpaaDoor.Q

/-! ED4 -/
namespace Go.Proofs.YtekcjghbfbfmpaaDoor.Q
open Go Ovi Go.ChangeShapes Go.WideShapes Go.ChangeAt Go.RowKit
theorem own : ownKnob Tryd.prog.godebug = none := by kernel_rfl
theorem laidOut : laidOutB Tryd.prog = true := by kernel_rfl
abbrev laidL : List (String × DataW Unit) := [("math/bits.deBruijn32tab", Rows.laid_math_bits_deBruijn32tab), ("math/bits.deBruijn64tab", Rows.laid_math_bits_deBruijn64tab), ("internal/strconv.uint64pow10", Rows.laid_internal_strconv_uint64pow10)]
/-- the door's own heap meets the condition -/
theorem door_met (os : Os) (args : Array Value) : laidMetH Tryd.prog laidL ((World.doorLaid Tryd.prog 400 os).forCall (fun _ _ => 0) ⟨#[], args, []⟩).memory :=
  laidMetH_of_parts3 (fuel := 8) (laidMet_of_run' 8 (by kernel_rfl) (by kernel_rfl)) (by kernel_rfl) (by kernel_rfl)
theorem tab_of_laid {W : World} (h : laidMetH Tryd.prog laidL W) : G.pr (Here W) W := by
  rw [MakeChecks.laidMetH_plain _ _ _ (by kernel_rfl)] at h
  obtain ⟨ps, ⟨g0, t0, cs0, f0, p0, q0, hg0, ht0, hv0, hd0, ⟨g1, t1, cs1, f1, p1, q1, hg1, ht1, hv1, hd1, ⟨g2, t2, cs2, f2, p2, q2, hg2, ht2, hv2, hd2, _⟩, _⟩, _⟩, _⟩ := h
  obtain rfl := Option.some.inj (pow10.symm.trans hg2)
  obtain rfl := Option.some.inj ((show (Tryd.prog.globals[1]?).map (·.type) = some 167 by kernel_rfl).symm.trans ht2)
  have e := Lib.cells_of_tab (k := .u64) (zs := Lib.pow10Tab) (show Tryd.prog.underlying 167 = some (.array 20 154) by kernel_rfl) (show Tryd.prog.underlying 154 = some (.int .u64) by kernel_rfl) (by kernel_rfl) (by kernel_rfl) hd2
  have htab : Lib.TabIs Tryd.prog W "internal/strconv.uint64pow10" .u64 Lib.pow10Tab := by
    unfold Lib.TabIs
    rw [hv2, ← e]
  refine ⟨?_, htab⟩
  have h1 := hv2
  unfold World.var? at h1
  rw [pow10] at h1
  simp only [Option.bind_some] at h1
  show 1 < W.heap.size
  rcases Nat.lt_or_ge 1 W.heap.size with h2 | h2
  · exact h2
  · rw [Array.getElem?_eq_none h2] at h1
    cases h1

def ty4 : List (Bool × List Ty) := [(true, [.list [.str, .int .i64, .bool], .list [.int .i64, .list [.int .i64]], .int .i64, .list [.int .i64, .list [.int .i64]]])]
theorem tys4 : parTys Tryd.prog Tryd.f4.params.toList = some ty4 := by kernel_rfl
theorem readable4 : readable Tryd.prog Tryd.f4.params.toList = true := by kernel_rfl
theorem law_args4 {av : List AV} (h : ArgsFit ty4 av) : C 3000000 4 av = some yes := by
  match av, h with
  | [p0], h =>
    simp only [ty4, ArgsFit, and_true] at h
    have g0 := h
    cases p0 <;> simp only [ArgFit] at g0
    obtain ⟨ds0, rfl, g0⟩ := g0
    obtain ⟨_, _, rfl, e0_0, g0⟩ := Fits.cons g0
    obtain ⟨_, _, rfl, e0_1, g0⟩ := Fits.cons g0
    obtain ⟨_, _, rfl, e0_2, g0⟩ := Fits.cons g0
    obtain ⟨_, _, rfl, e0_3, g0⟩ := Fits.cons g0
    obtain rfl := Fits.nil g0
    obtain ⟨_, rfl, e0_0⟩ := e0_0.list (n := 3) rfl
    obtain ⟨_, rfl, e0_1⟩ := e0_1.list (n := 2) rfl
    obtain ⟨_, rfl, we0_2⟩ := e0_2.int
    obtain ⟨_, rfl, e0_3⟩ := e0_3.list (n := 2) rfl
    exact law4 (Nat.le_refl _) e0_0 e0_1 e0_3
set_option maxRecDepth 100000 in
theorem lifted4 (os : Os) (started : os.Started) (H : Type) (enc : TypeId × Value → H) :
    ReturnsInHanded {} Tryd.checked os 4 .any (fun w args => (Rows.fnExactFormatResultSpec.pre enc Tryd.prog Tryd.f4 [] false w args ∧ laidMetH Tryd.prog laidL w) ∧ sizedMet enc Tryd.prog Tryd.f4 (OpenSpec.ofChange Rows.fnExactFormatResultSpec) false w args) (Rows.fnExactFormatResultSpec.post enc Tryd.prog Tryd.f4 false true false false) := by
  refine returnsInHanded_of_change_and (C := Tryd.checked) (X := fun w _ => laidMetH Tryd.prog laidL w) (fun _ _ _ hh h => h.of_heap hh) own started (by kernel_rfl) Tryd.func4
    (ChangeSpec.witness_shaped (enc := enc) (C := Tryd.checked) (os := os) (X := fun w _ => laidMetH Tryd.prog laidL w) false (World.doorLaid Tryd.prog 400 os) #[.agg #[.slice none 0 0, .slice none 0 0, .int .i64 0, .slice none 0 0]] 8 rfl (World.shaped_of_RefB (by kernel_rfl) (by kernel_rfl)) (by kernel_rfl) (by kernel_rfl) (by kernel_rfl) (door_met os _)) ?_
  intro W base args ds gs before hval0 hW _ _ hL _
  have hval : ∀ (j : Nat) t v, Tryd.f4.params[j]? = some t → args[j]? = some v → Value.okWide Tryd.prog W .any base t v := hval0
  have hW' := hW
  obtain ⟨p, q, hA0, hV, rfl, hfz, hnd⟩ := hW
  have hA : DataW.TrodAll enc Tryd.prog W 0 (fun _ => true) true Tryd.f4.params.toList args.toList ds p := hA0
  obtain ⟨rfl, rfl⟩ := trodVars_none hV
  obtain ⟨av, hfit, hlen, hac⟩ := args_in hA (base := base) (fun j t v h1 h2 => hval j t v (by simpa using h1) (by simpa using h2)) tys4
  refine (calls_yes (sound 3000000) (law_args4 hfit) (vs := args) ⟨by simpa using hlen, fun j a ha => by
    obtain ⟨u, hu, hc⟩ := hac j a ha
    exact ⟨u, by simpa using hu, hc⟩⟩ (tab_of_laid hL)).mono fun e W' ⟨he, bel⟩ => ?_
  subst he
  have hk := kept_all laidOut bel readable4 hA
  obtain ⟨d0, rfl⟩ : ∃ d0, ds = [d0] := by
    obtain ⟨v0, vs0, d0, ds0, p0, q0, rg0, rfl, rfl, h0, r0⟩ := trodAll_cons hA
    obtain ⟨rfl, rfl, rfl⟩ := trodAll_nil r0
    exact ⟨_, rfl⟩
  exact ⟨_, rfl, _, _, _, [], _, [], hW', trodAll_mk1 (shut_bool (show Tryd.prog.underlying 4 = some .bool by kernel_rfl) _), hk, rfl, bel.frame _, fun h => by cases h⟩
theorem over4 : Rows.fnExactFormatResultRow.holds Tryd.pinned (OpenSpec.ofChange Rows.fnExactFormatResultSpec) :=
  OpenClaim.holds_of_wide 4 Tryd.f4 rfl rfl rfl rfl rfl rfl rfl ⟨rfl, rfl, rfl, rfl, rfl⟩ rfl rfl rfl rfl rfl (by kernel_rfl) Tryd.func4 (by kernel_rfl)
    (of_decide_eq_true (by kernel_rfl)) (by unfold Func.isWrapper; first | (rw [if_pos (by decide +kernel)]; kernel_rfl) | (rw [if_neg (by decide +kernel)]; exact ⟨rfl, rfl⟩))
    (fun os started H enc _ => lifted4 os started H enc)
end Go.Proofs.YtekcjghbfbfmpaaDoor.Q
namespace Go.Proofs.YtekcjghbfbfmpaaDoor
theorem fnExactFormatResult_row : Rows.FnExactFormatResultSaid := Q.over4
theorem fnExactFormatResult_holds : Rows.FnExactFormatResultCardSaid :=
  Claim7.holds_tied_plain_at .later [] [.data, .data, .data] true (true, "fc7b24dcd54d0d69eb75d9d5120a2cc6916eade933785e62cd78499e8f3b1e99") false
    fnExactFormatResult_row (fun _ h => by cases h) (by kernel_rfl) (fun _ h => by cases h) fnExactFormatResult_row_tie rfl ⟨rfl, rfl⟩ (by kernel_rfl) rfl
    (fun f fn hf hfn => by
      obtain rfl : f = 4 := Option.some.inj ((show Tryd.prog.funcNamed "loop.example/g01919/laws.FnExactFormatResult" = some 4 by kernel_rfl).symm.trans hf) |>.symm
      obtain rfl : fn = Tryd.f4 := (Option.some.inj (Tryd.func4.symm.trans hfn)).symm
      exact ⟨by kernel_rfl, fun j t ht => by
        have key : ∀ t ∈ Tryd.f4.params.toList, Tryd.prog.wantsStandIn t = false := by
          intro t ht
          have : Tryd.f4.params.toList.all (fun t => !Tryd.prog.wantsStandIn t) = true := by kernel_rfl
          have := List.all_eq_true.1 this t ht
          simpa using this
        exact key t (List.mem_of_getElem? (by simpa using ht))⟩)
    (by kernel_rfl)
#print axioms fnExactFormatResult_holds
end Go.Proofs.YtekcjghbfbfmpaaDoor
